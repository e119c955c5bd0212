/- Package codec's function that reads a batch. -/
import Derived.Test.YthiijdbiikljpaaGreatZh
import Derived.Test.YthiijdbiikljpaaGreatZf
namespace Go.Proofs.YthiijdbiikljpaaGreat.Cod
open Go Go.RowKit Go.Proofs.YthiijdbiikljpaaGreat.KW Go.Proofs.YthiijdbiikljpaaGreat.Words Go.Proofs.YthiijdbiikljpaaGreat.Grp
set_option linter.unusedVariables false
set_option linter.unusedSimpArgs false
set_option maxRecDepth 100000
theorem rdNums_step {n : Nat} {s : St} : rdNums (n + 1) s = ((numS s).1 :: (rdNums n (numS s).2).1, (rdNums n (numS s).2).2) := rfl
theorem rdLets_step {k n : Nat} {s : St} (h : s.1 = 0) : rdLets k (n + 1) s = (((keyS s).1, (takeS k (keyS s).2).1) :: (rdLets k n (takeS k (keyS s).2).2).1, (rdLets k n (takeS k (keyS s).2).2).2) := by conv => lhs; unfold rdLets; rw [if_pos h]
theorem rdLets_stop {k n : Nat} {s : St} (h : s.1 ≠ 0 ∨ n = 0) : rdLets k n s = ([], s) := by
 rcases h with h | rfl
 exact rdLets_bad h
 rfl
theorem Rdr.uniq {w : World} {g : Nat} {q : Option Addr} {c : Nat} {b : List UInt8} {s t : St} (h : Rdr w g q c b s) (k : Rdr w g q c b t) : s = t := by
 obtain ⟨p, e, h1, _, _, rfl⟩ := h.out
 obtain ⟨p', e', h2, _, _, rfl⟩ := k.out
 obtain ⟨_, h1⟩ := h1
 obtain ⟨_, h2⟩ := h2
 rw [h1] at h2
 injection h2 with h2
 injection h2 with h3 _ _
 have h3 : [Value.slice q b.length c, .int .i64 (p : Int), .int .i64 (e : Int)] = [Value.slice q b.length c, .int .i64 (p' : Int), .int .i64 (e' : Int)] := congrArg Array.toList h3
 injection h3 with _ h3
 injection h3 with h4 h3
 injection h3 with h5 _
 injection h4 with _ h4
 injection h5 with _ h5
 have h4 : p = p' := by omega
 have h5 : e = e' := by omega
 subst h4; subst h5; rfl
theorem keyS_fix {s : St} {k : Nat} (h : (takeS k (keyS s).2).2 = s) : (keyS s).2 = s := by
 by_cases h0 : s.1 = 0
 exfalso
 have h1 : (takeS k (keyS s).2).2.1 = 0 := by rw [h]; exact h0
 obtain ⟨g1, g2⟩ := takeS_back h1
 have h2 : (keyS s).2.1 = 0 := by rw [g1]
 obtain ⟨k1, k2, k3⟩ := keyS_ok h2
 have e1 : (keyS s).2.2.length = s.2.length - 32 := by rw [k3]; simp
 have e2 : (keyS s).2.2 = (takeS k (keyS s).2).1 ++ (takeS k (keyS s).2).2.2 := congrArg Prod.snd g1
 have e3 : (takeS k (keyS s).2).2.2.length = s.2.length := by rw [h]
 have e4 := congrArg List.length e2
 rw [List.length_append] at e4
 omega
 unfold keyS
 rw [takeS_bad h0]
def LitP (w0 : World) (sz : Nat) (cells : List Value) (v : Value) (w : World) : Prop := ∃ g, v = .slice (some ⟨g, 0, none⟩) 1 1 ∧ Sl w (some ⟨g, 0, none⟩) 1 1 sz cells ∧ w0.heap.size ≤ g
theorem LitP.ext {w0 w w' : World} {sz : Nat} {cells : List Value} {v : Value} (h : LitP w0 sz cells v w) (x : Ext w w') : LitP w0 sz cells v w' := by
 obtain ⟨g, h1, h2, h3⟩ := h
 exact ⟨g, h1, h2.ext x, h3⟩
theorem ReadBatch_ok (q : Option Addr) (c : Nat) (b : List UInt8) (w : World) (hb : Bs w q c b) (hlen : b.length ≤ 1099511627776) :
   Ct Tryz.prog 58 #[.slice q b.length c] w (fun v w' => ∃ vi vl, v = .tuple #[.agg (batC (batR b) vi vl).toArray, .int .i64 (batRE b : Int)] ∧ RNums (fun k => k < w.heap.size) w' [vi] (batR b).inner ∧ RSl 33 RLet (fun k => k < w.heap.size) w' [vl] (batR b).lets ∧ Ext w w') := by
 refine Ct.enter [(0, .slice q b.length c)] Tryz.func58 rfl rfl rfl rfl ?_
 have hS0 := batS_ok b
 have q1 := bat1_eq b
 have q2 := bat2_eq b
 have q3 := bat3_eq b
 have q4 := bat4_eq b
 have q5 := bat5_eq b
 have q6 := bat6_eq b
 have q7 := bat7_eq b
 have hS : batS b = ⟨((bat1 b).1 : Int), ((bat2 b).1 : Int), (bat4 b).1, (bat7 b).1⟩ := rfl
 have hRE : batRE b = overS (bat7 b).2 := rfl
 generalize bat1 b = p1 at *
 generalize bat2 b = p2 at *
 generalize bat3 b = p3 at *
 generalize bat4 b = p4 at *
 generalize bat5 b = p5 at *
 generalize bat6 b = p6 at *
 generalize bat7 b = p7 at *
 rw [hS] at hS0
 have hn20 : p3.1 ≤ 20 := by rw [q3]; exact intS_le _ _
 have hn1000 : p5.1 ≤ 1000 := by rw [q5]; exact intS_le _ _
 have hk20 : p6.1 ≤ 1048576 := by rw [q6]; exact intS_le 1048576 _
 have hI4 : ∀ x ∈ p4.1, x < M64 := hS0.2.2.1
 refine C.seq (C.region ?_)
 refine W.alloc (z := .agg #[.int .i64 0, .int .i64 0, .slice none 0 0, .slice none 0 0]) [.int .i64 0, .int .i64 0, .slice none 0 0, .slice none 0 0] (by kernel_rfl) rfl rfl ?_
 intro g2 w2 hg2 hX2 hB2
 refine W.assign rfl rfl (W.nil (At.thenCode (C.seq (C.region (W.move rfl rfl ?_)))))
 refine W.buildS (fs := _) [(0, 1), (1, 1), (2, 1)] (RdrC q c b) [.slice none 0 0, .int .i64 0, .int .i64 0] Tryz.underlying147 (by kernel_rfl) (by kernel_rfl) rfl rfl rfl ?_
 refine W.box (RdrC q c b) rfl rfl rfl ?_
 intro g9 w9 hg9 hX9 hB9
 have hX9a := hX2.ext hX9
 have hr9 : Rdr w9 g9 q c b (0, b) := Rdr.mk' hB9 (hb.ext hX9a) (far_new hb (by have := hX2.size; omega))
 have hB2a := hB2.ext hX9
 have hl2 := hB2.lt
 have hl9 := hB9.lt
 have hgw : w.heap.size ≤ g9 := by have := hX2.size; omega
 refine W.assign rfl rfl (W.nil (At.thenCode (C.seq (C.region (W.move rfl rfl ?_)))))
 refine W.call Tryz.call93 rfl (Cod.rint_ok g9 q c b (0, b) maxInt _ hr9 hlen (by decide)) rfl ?_
 rintro v14 w14 ⟨rfl, hP14⟩
 rw [← q1] at hP14 ⊢
 have hr14 := hP14.rdr
 refine W.move rfl rfl ?_
 refine W.call Tryz.call93 rfl (Cod.rint_ok g9 q c b p1.2 maxInt _ hr14 hlen (by decide)) rfl ?_
 rintro v16 w16 ⟨rfl, hP16⟩
 rw [← q2] at hP16 ⊢
 have hr16 := hP16.rdr
 have hB2b := (hB2a.chg hP14.chg (by omega)).chg hP16.chg (by omega)
 have hX16 := hP16.old hgw (hP14.old hgw hX9a)
 have hl16 : w9.heap.size ≤ w16.heap.size := by have := hP14.chg.size; have := hP16.chg.size; omega
 refine W.buildS (fs := _) [(0, 1), (1, 1), (2, 1), (3, 1)] [.int .i64 (p1.1 : Int), .int .i64 (p2.1 : Int), .slice none 0 0, .slice none 0 0] [.int .i64 0, .int .i64 0, .slice none 0 0, .slice none 0 0] Tryz.underlying39 (by kernel_rfl) (by kernel_rfl) rfl rfl rfl ?_
 refine W.alloc (z := .agg #[.int .i64 0, .int .i64 0, .slice none 0 0, .slice none 0 0]) [.int .i64 0, .int .i64 0, .slice none 0 0, .slice none 0 0] (by kernel_rfl) rfl rfl ?_
 intro g5 w5 hg5 hX5 hB5
 refine W.storeA [.int .i64 (p1.1 : Int), .int .i64 (p2.1 : Int), .slice none 0 0, .slice none 0 0] rfl rfl hB5 rfl (by kernel_rfl) (by intro u hu; simp at hu; rcases hu with rfl | rfl | rfl <;> rfl) ?_
 intro w6 hc6 hB6
 have hX6 : Ext w16 w6 := hX5.news hc6 fun k hk => Or.inr (by omega)
 have hX6a := hX16.ext hX6
 have hB2c := hB2b.ext hX6
 have hr6 := hr16.ext hX6
 have hl5 := hB6.lt
 refine W.nil (At.thenCode (C.seq (C.seq (C.region (W.move rfl rfl ?_)))))
 refine W.call Tryz.call93 rfl (Cod.rint_ok g9 q c b p2.2 20 _ hr6 hlen (by decide)) rfl ?_
 rintro v19 w19 ⟨rfl, hP19⟩
 rw [← q3] at hP19 ⊢
 have hX19 := hP19.old hgw hX6a
 have hB19 := hB6.chg hP19.chg (by omega)
 have hB2d := hB2c.chg hP19.chg (by omega)
 have hl19 := hP19.chg.size
 refine W.move rfl rfl (W.nil (At.thenCode (C.block ?_)))
 refine C.loop (X := Nat × Value × (List Nat) × St) (fun x_ => [(0, .slice q b.length c), (2, .pointer (some ⟨g2, 0, none⟩)), (4, .pointer (some ⟨g9, 0, none⟩)), (5, .pointer (some ⟨g5, 0, none⟩)), (19, .int .i64 (p3.1 : Int)), (20, .int .i64 (x_.1 : Int))]) (fun x_ wl => x_.1 ≤ p3.1 ∧ Ext w wl ∧ w6.heap.size ≤ (World.heap wl).size ∧ Rdr wl g9 q c b x_.2.2.2 ∧ Bk wl g5 [.int .i64 (p1.1 : Int), .int .i64 (p2.1 : Int), x_.2.1, .slice none 0 0] ∧ Bk wl g2 [.int .i64 0, .int .i64 0, .slice none 0 0, .slice none 0 0] ∧ World.ownsRow wl w.heap.size 83 1 x_.2.1 x_.2.2.1.length (x_.2.2.1.map u64V) ∧ (∀ k, x_.2.1.ownBlock = some k → w6.heap.size ≤ k) ∧ x_.2.2.1.length = x_.1 ∧ p4.1 = x_.2.2.1 ++ (rdNums (p3.1 - x_.1) x_.2.2.2).1 ∧ p4.2 = (rdNums (p3.1 - x_.1) x_.2.2.2).2) (fun x_ => p3.1 - x_.1) (0, Value.slice none 0 0, [], p3.2) (sc rfl (sc rfl (sc rfl (sc rfl (sc rfl (sc rfl (Sub.nil))))))) ?start1 ?_
 case start1 =>
   show (0) ≤ p3.1 ∧ Ext w _ ∧ w6.heap.size ≤ (World.heap _).size ∧ Rdr _ g9 q c b (p3.2) ∧ Bk _ g5 [.int .i64 (p1.1 : Int), .int .i64 (p2.1 : Int), (Value.slice none 0 0), .slice none 0 0] ∧ Bk _ g2 [.int .i64 0, .int .i64 0, .slice none 0 0, .slice none 0 0] ∧ World.ownsRow _ w.heap.size 83 1 (Value.slice none 0 0) ([]).length (([]).map u64V) ∧ (∀ k, (Value.slice none 0 0).ownBlock = some k → w6.heap.size ≤ k) ∧ ([]).length = (0) ∧ p4.1 = ([]) ++ (rdNums (p3.1 - (0)) (p3.2)).1 ∧ p4.2 = (rdNums (p3.1 - (0)) (p3.2)).2
   exact ⟨by omega, hX19, hl19, hP19.rdr, hB19, hB2d, World.ownsRow_nil _ _ _ _, (by intro k e; cases e), rfl, by rw [q4]; rfl, by rw [q4]; rfl⟩
 rintro ⟨i, vi, xs, s⟩ wl hI_
 replace hI_ : i ≤ p3.1 ∧ Ext w wl ∧ w6.heap.size ≤ (World.heap wl).size ∧ Rdr wl g9 q c b s ∧ Bk wl g5 [.int .i64 (p1.1 : Int), .int .i64 (p2.1 : Int), vi, .slice none 0 0] ∧ Bk wl g2 [.int .i64 0, .int .i64 0, .slice none 0 0, .slice none 0 0] ∧ World.ownsRow wl w.heap.size 83 1 vi xs.length (xs.map u64V) ∧ (∀ k, vi.ownBlock = some k → w6.heap.size ≤ k) ∧ xs.length = i ∧ p4.1 = xs ++ (rdNums (p3.1 - i) s).1 ∧ p4.2 = (rdNums (p3.1 - i) s).2 := hI_
 obtain ⟨hi, hXl, hsl, hRl, hBl, hB2l, hOl, hnl, hxl, hq1, hq2⟩ := hI_
 refine C.weaken (l' := [(0, .slice q b.length c), (2, .pointer (some ⟨g2, 0, none⟩)), (4, .pointer (some ⟨g9, 0, none⟩)), (5, .pointer (some ⟨g5, 0, none⟩)), (19, .int .i64 (p3.1 : Int)), (20, .int .i64 (i : Int))]) (sc rfl (sc rfl (sc rfl (sc rfl (sc rfl (sc rfl (Sub.nil))))))) ?_
 refine C.seq (C.region (W.lssI rfl rfl rfl (W.nil (At.thenCode (C.seq ?_)))))
 refine C.condD rfl (fun c21 => ?_) (fun c21 => ?_)
 have hi2 : i < p3.1 := by omega
 have hst := rdNums_step (n := p3.1 - i - 1) (s := s)
 rw [show p3.1 - i - 1 + 1 = p3.1 - i by omega] at hst
 rw [hst] at hq1 hq2
 obtain ⟨ai, ci, rfl, hUi, hbi⟩ := ownsRow_form hOl
 refine C.skip (At.thenCode (C.seq (C.block ?_)))
 refine C.regionAnyB (fun k b => k = 3 ∧ b = g9) 5 (E_ (.pointer (some ⟨g5, 2, none⟩)) :: E_ (.slice ai xs.length ci) :: E_ (.pointer (some ⟨g9, 0, none⟩)) :: (fun v w => v = .int .u64 ((numS s).1 : Int) ∧ Rdr w g9 q c b (numS s).2) :: (fun v w => LitP wl 1 [u64V (numS s).1] v w) :: []) [(0, .slice q b.length c), (2, .pointer (some ⟨g2, 0, none⟩)), (4, .pointer (some ⟨g9, 0, none⟩)), (5, .pointer (some ⟨g5, 0, none⟩)), (19, .int .i64 (p3.1 : Int)), (20, .int .i64 (i : Int))] [] (sc rfl (sc rfl (sc rfl (sc rfl (sc rfl (sc rfl (Sub.nil))))))) (Sub.nil) (sc rfl (sc rfl (sc rfl (sc rfl (sc rfl (sc rfl (Sub.nil))))))) (by kernel_rfl) rfl rfl rfl (sN (sN (sN (sM (fun _ _ _ h g => ⟨h.1, h.2.ext (FamPost.ext g (fun k q h1 h2 h3 => h1 h3.1))⟩) (sM (fun _ _ _ h g => h.ext (FamPost.ext g (fun k q h1 h2 h3 => dT_absurd h2 (by rw [h3.1]; kernel_rfl)))) (trivial)))))) ?_ ?_
 refine And.intro ?_ ?_
 intro L_ wr hX_ hs_ hf_ hd_
 exact W.s1 (hs_ 5 _ rfl) (W.fieldB (off := 2) (size := 1) (t := 36) (Fld.of (by kernel_rfl)) rfl rfl rfl (W.eF rfl))
 refine And.intro ?_ ?_
 intro L_ wr hX_ hs_ hf_ hd_
 obtain ⟨_, e0, rfl⟩ := hd_ 0 rfl
 refine W.s1 (e0 _ rfl) ?_
 have hBr : Bk wr g5 [.int .i64 (p1.1 : Int), .int .i64 (p2.1 : Int), .slice ai xs.length ci, .slice none 0 0] := hBl.chg hX_ (by rintro ⟨k, _, _, _, h⟩; omega)
 refine W.loadB rfl Tryz.underlying36 rfl hBr rfl rfl ?_
 exact W.eF rfl
 refine And.intro ?_ ?_
 intro L_ wr hX_ hs_ hf_ hd_
 exact W.s1 (hs_ 4 _ rfl) (W.move rfl rfl (W.eF rfl))
 refine And.intro ?_ ?_
 intro L_ wr hX_ hs_ hf_ hd_
 obtain ⟨_, e2, rfl⟩ := hd_ 2 rfl
 refine W.s1 (e2 _ rfl) ?_
 have hXe := FamPre.ext hX_ (fun k q h1 h2 h3 => h1 h3.1)
 have hr := hRl.ext hXe
 refine W.call Tryz.call94 rfl (Cod.number_ok g9 q c b s _ hr hlen) rfl ?_
 rintro v25 w25 ⟨rfl, hP25⟩
 refine W.nil ?_
 exact At.stepF (Fam.of 3 (hP25.chg.mono fun k hk => ⟨rfl, hk⟩)) ⟨rfl, hP25.rdr⟩
 refine And.intro ?_ ?_
 intro L_ wr hX_ hs_ hf_ hd_
 obtain ⟨v3, e3, r3⟩ := hd_ 3 rfl
 obtain ⟨rfl, hR3⟩ := r3
 refine W.s1 (e3 _ rfl) ?_
 refine W.litV [u64V (numS s).1] U64 Tryz.underlying36 rfl rfl (fun u hu => by simp at hu; subst hu; rfl) rfl rfl rfl ?_
 intro g26 w26 hg26 hX26 _ hs26
 refine W.nil ?_
 exact At.stepF (Fam.ofExt hX26) ⟨g26, rfl, hs26, by have := Chg.size hX_; omega⟩
 exact trivial
 intro L_ wr hX5 hs_ hv_
 obtain ⟨v3, e3, r3⟩ := hv_ 3 (by decide)
 obtain ⟨rfl, hR3⟩ := r3
 obtain ⟨_, e1, rfl⟩ := hv_ 1 (by decide)
 obtain ⟨v4, e4, r4⟩ := hv_ 4 (by decide)
 obtain ⟨g4, rfl, hs4, hg4⟩ := r4
 refine W.weaken (l' := [(25, _), (23, _), (26, _), (0, _), (2, _), (4, _), (5, _), (19, _), (20, _)]) (sc (e3 _ rfl) (sc (e1 _ rfl) (sc (e4 _ rfl) (sc (hs_ _ _ rfl) (sc (hs_ _ _ rfl) (sc (hs_ _ _ rfl) (sc (hs_ _ _ rfl) (sc (hs_ _ _ rfl) (sc (hs_ _ _ rfl) (Sub.nil)))))))))) ?_
 have hC5 : Chg (fun k => k = g9) wl wr := Chg.mono hX5 fun b ⟨k, h1, h2⟩ => h2
 have hOr : wr.ownsRow w.heap.size 83 1 (.slice ai xs.length ci) xs.length (xs.map u64V) := ownsRow_chg hOl hC5 (fun k hk e => by have := hnl k hk; omega)
 have hXr : Ext w wr := hXl.news hC5 fun k hk => Or.inr (by omega)
 have hsr := hC5.size
 refine W.appendU (ys := [(numS s).1]) U64 Tryz.underlying36 rfl rfl hOr hs4 (by simp; omega) (by have := hXr.size; omega) rfl ?_
 intro v27 w27 ho27 hg27 hl27
 have hcell := fun k (hk : some k = (Value.slice ai xs.length ci).ownBlock) => hnl k hk.symm
 have hB27 : Bk w27 g5 [.int .i64 (p1.1 : Int), .int .i64 (p2.1 : Int), .slice ai xs.length ci, .slice none 0 0] := (hBl.chg hC5 (by omega)).chg (Chg.of_grown hg27) (fun e => by have := hcell _ e; omega)
 have hB2e := (hB2l.chg hC5 (by omega)).chg (Chg.of_grown hg27) (fun e => by have := hcell _ e; omega)
 obtain ⟨a27, c27, rfl, _, _⟩ := ownsRow_form ho27
 refine W.fieldB (off := 2) (size := 1) (t := 36) (Fld.of (by kernel_rfl)) rfl rfl rfl ?_
 refine W.store1 rfl rfl rfl hB27 (by simp) (by kernel_rfl) ?_
 intro w28 hc28 hB28
 have hX27 : Ext w w27 := hXr.news (Chg.of_grown hg27) fun k hk => Or.inr ((World.ownsRow.lt hOr k hk.symm).1)
 have hX28 : Ext w w28 := hX27.news hc28 fun k hk => Or.inr (by have := hX16.size; omega)
 have hn28 : ∀ k, (Value.slice a27 (xs ++ [(numS s).1]).length c27).ownBlock = some k → w6.heap.size ≤ k := by
   intro k hk
   rcases hl27 with h | ⟨k', h, hk'⟩
   rw [h] at hk; exact hnl k hk
   rw [h] at hk; obtain rfl := Option.some.inj hk; omega
 refine W.nil (At.blockNormal (At.thenCode (C.region ?_)))
 refine W.addI rfl rfl (by omega) rfl ?_
 refine W.move rfl rfl (W.nil ?_)
 refine At.thenRound (i + 1, Value.slice a27 (xs ++ [(numS s).1]).length c27, xs ++ [(numS s).1], (numS s).2) (sc rfl (sc rfl (sc rfl (sc rfl (sc rfl (sc (look_eq rfl (iV (by omega))) (Sub.nil))))))) (show (i + 1) ≤ p3.1 ∧ Ext w _ ∧ w6.heap.size ≤ (World.heap _).size ∧ Rdr _ g9 q c b ((numS s).2) ∧ Bk _ g5 [.int .i64 (p1.1 : Int), .int .i64 (p2.1 : Int), (Value.slice a27 (xs ++ [(numS s).1]).length c27), .slice none 0 0] ∧ Bk _ g2 [.int .i64 0, .int .i64 0, .slice none 0 0, .slice none 0 0] ∧ World.ownsRow _ w.heap.size 83 1 (Value.slice a27 (xs ++ [(numS s).1]).length c27) (xs ++ [(numS s).1]).length ((xs ++ [(numS s).1]).map u64V) ∧ (∀ k, (Value.slice a27 (xs ++ [(numS s).1]).length c27).ownBlock = some k → w6.heap.size ≤ k) ∧ (xs ++ [(numS s).1]).length = (i + 1) ∧ p4.1 = (xs ++ [(numS s).1]) ++ (rdNums (p3.1 - (i + 1)) ((numS s).2)).1 ∧ p4.2 = (rdNums (p3.1 - (i + 1)) ((numS s).2)).2 from ?_) (show p3.1 - (i + 1) < p3.1 - i from ?_)
 refine ⟨by omega, hX28, by have := hg27.size; have := hc28.size; omega, ?_, by simpa using hB28, hB2e.chg hc28 (by omega), ownsRow_chg ho27 hc28 (fun k hk e => by have := hn28 k hk; omega), hn28, by simp; omega, ?_, ?_⟩
 obtain ⟨p', e', r1, r2⟩ := hR3.out
 exact ⟨⟨p', e', (r1.chg (Chg.of_grown hg27) (fun e => by have := hcell _ e; omega)).chg hc28 (by omega), r2⟩, hb.ext hX28, hR3.far⟩
 rw [hq1, show p3.1 - (i + 1) = p3.1 - i - 1 by omega]; simp
 rw [hq2, show p3.1 - (i + 1) = p3.1 - i - 1 by omega]
 omega
 obtain rfl : i = p3.1 := by omega
 rw [Nat.sub_self] at hq1 hq2
 have hq1 : p4.1 = xs := by rw [hq1]; simp [rdNums]
 have hq2 : p4.2 = s := hq2
 subst hq1
 rw [← hq2] at hRl
 refine C.exit (At.thenExit (At.thenExit (At.blockSelf (At.thenCode (C.seq (C.region (W.move rfl rfl ?_)))))))
 refine W.call Tryz.call95 rfl (Cod.list_ok g9 q c b p4.2 1000 _ hRl hlen (by decide)) rfl ?_
 rintro v32 w32 ⟨rfl, hP32⟩
 rw [← q5, ← q6] at hP32 ⊢
 have hX32 := hP32.old hgw hXl
 have hB32 := hBl.chg hP32.chg (by omega)
 have hB2f := hB2l.chg hP32.chg (by omega)
 have hO32 : w32.ownsRow w.heap.size 83 1 vi p4.1.length (p4.1.map u64V) := ownsRow_chg hOl hP32.chg (fun k hk e => by have := hnl k hk; omega)
 have hl32 := hP32.chg.size
 have hvil := fun k hk => (World.ownsRow.lt hO32 k hk).2
 refine W.move rfl rfl (W.extract rfl rfl rfl (W.extract rfl rfl rfl (W.assign rfl rfl (W.assign rfl rfl (W.nil (At.thenCode (C.seq (C.seq (C.region (W.assign rfl rfl (W.nil ?_)))))))))))
 refine At.thenCode (C.block ?_)
 refine C.loop (X := Nat × Value × (List Let) × St) (fun x_ => [(0, .slice q b.length c), (2, .pointer (some ⟨g2, 0, none⟩)), (4, .pointer (some ⟨g9, 0, none⟩)), (5, .pointer (some ⟨g5, 0, none⟩)), (6, .int .i64 (p5.1 : Int)), (7, .int .i64 (p6.1 : Int)), (8, .int .i64 (x_.1 : Int))]) (fun x_ wm => x_.1 ≤ p5.1 ∧ Ext w wm ∧ w32.heap.size ≤ (World.heap wm).size ∧ Rdr wm g9 q c b x_.2.2.2 ∧ Bk wm g5 [.int .i64 (p1.1 : Int), .int .i64 (p2.1 : Int), vi, x_.2.1] ∧ Bk wm g2 [.int .i64 0, .int .i64 0, .slice none 0 0, .slice none 0 0] ∧ World.ownsRow wm w.heap.size 83 1 vi p4.1.length (p4.1.map u64V) ∧ OwE (fun k => k < w32.heap.size) wm w.heap.size 58 33 RLet x_.2.1 x_.2.2.1 ∧ (∀ k, x_.2.1.ownBlock = some k → w32.heap.size ≤ k) ∧ x_.2.2.1.length = x_.1 ∧ p7.1 = x_.2.2.1 ++ (rdLets p6.1 (p5.1 - x_.1) x_.2.2.2).1 ∧ p7.2 = (rdLets p6.1 (p5.1 - x_.1) x_.2.2.2).2) (fun x_ => p5.1 - x_.1) (0, Value.slice none 0 0, [], p6.2) (sc rfl (sc rfl (sc rfl (sc rfl (sc rfl (sc rfl (sc rfl (Sub.nil)))))))) ?start2 ?_
 case start2 =>
   show (0) ≤ p5.1 ∧ Ext w _ ∧ w32.heap.size ≤ (World.heap _).size ∧ Rdr _ g9 q c b (p6.2) ∧ Bk _ g5 [.int .i64 (p1.1 : Int), .int .i64 (p2.1 : Int), vi, (Value.slice none 0 0)] ∧ Bk _ g2 [.int .i64 0, .int .i64 0, .slice none 0 0, .slice none 0 0] ∧ World.ownsRow _ w.heap.size 83 1 vi p4.1.length (p4.1.map u64V) ∧ OwE (fun k => k < w32.heap.size) _ w.heap.size 58 33 RLet (Value.slice none 0 0) ([]) ∧ (∀ k, (Value.slice none 0 0).ownBlock = some k → w32.heap.size ≤ k) ∧ ([]).length = (0) ∧ p7.1 = ([]) ++ (rdLets p6.1 (p5.1 - (0)) (p6.2)).1 ∧ p7.2 = (rdLets p6.1 (p5.1 - (0)) (p6.2)).2
   exact ⟨by omega, hX32, Nat.le_refl _, hP32.rdr, hB32, hB2f, hO32, OwE.nil _ _ _ _ _ _, (by intro k e; cases e), rfl, by rw [q7]; rfl, by rw [q7]; rfl⟩
 rintro ⟨i, vl, ls, s⟩ wm hI_
 replace hI_ : i ≤ p5.1 ∧ Ext w wm ∧ w32.heap.size ≤ (World.heap wm).size ∧ Rdr wm g9 q c b s ∧ Bk wm g5 [.int .i64 (p1.1 : Int), .int .i64 (p2.1 : Int), vi, vl] ∧ Bk wm g2 [.int .i64 0, .int .i64 0, .slice none 0 0, .slice none 0 0] ∧ World.ownsRow wm w.heap.size 83 1 vi p4.1.length (p4.1.map u64V) ∧ OwE (fun k => k < w32.heap.size) wm w.heap.size 58 33 RLet vl ls ∧ (∀ k, vl.ownBlock = some k → w32.heap.size ≤ k) ∧ ls.length = i ∧ p7.1 = ls ++ (rdLets p6.1 (p5.1 - i) s).1 ∧ p7.2 = (rdLets p6.1 (p5.1 - i) s).2 := hI_
 obtain ⟨hi', hXm, hsm, hRm, hBm, hB2m, hOm, hEm, hnm, hlm, hm1, hm2⟩ := hI_
 refine C.weaken (l' := [(0, .slice q b.length c), (2, .pointer (some ⟨g2, 0, none⟩)), (4, .pointer (some ⟨g9, 0, none⟩)), (5, .pointer (some ⟨g5, 0, none⟩)), (6, .int .i64 (p5.1 : Int)), (7, .int .i64 (p6.1 : Int)), (8, .int .i64 (i : Int))]) (sc rfl (sc rfl (sc rfl (sc rfl (sc rfl (sc rfl (sc rfl (Sub.nil)))))))) ?_
 obtain ⟨p, e, hBr, hpl, hel, hss⟩ := hRm.out
 have hse : s.1 = e := by rw [hss]
 refine C.seq (C.seq (C.region (W.move rfl rfl (W.move rfl rfl (W.lssI rfl rfl rfl (W.move rfl rfl ?_))))))
 refine W.splitD (fun g38 => ?_) (fun g38 => ?_)
 refine W.wants rfl rfl rfl rfl (W.move rfl rfl (W.wants rfl rfl rfl rfl (W.nilCheck rfl rfl (W.wants rfl rfl rfl rfl (W.fieldB (off := 2) (size := 1) (t := 29) (Fld.of (by kernel_rfl)) rfl rfl rfl (W.wants rfl rfl rfl rfl ?_))))))
 refine W.loadB rfl Tryz.underlying29 rfl (by assumption) rfl rfl ?_
 refine W.wants rfl rfl rfl rfl (W.eqlI rfl rfl rfl (W.pickT rfl rfl rfl (W.nil (At.thenCode ?_))))
 refine C.condD rfl (fun c44 => ?_) (fun c44 => ?_)
 have hi2 : i < p5.1 := by omega
 have he0 : s.1 = 0 := by omega
 have hst := rdLets_step (k := p6.1) (n := p5.1 - i - 1) he0
 rw [show p5.1 - i - 1 + 1 = p5.1 - i by omega] at hst
 rw [hst] at hm1 hm2
 obtain ⟨t1, ht1⟩ : ∃ t, t = (keyS s).2 := ⟨_, rfl⟩
 obtain ⟨t2, ht2⟩ : ∃ t, t = (takeS p6.1 t1).2 := ⟨_, rfl⟩
 obtain ⟨ky, hky⟩ : ∃ t, t = (keyS s).1 := ⟨_, rfl⟩
 obtain ⟨bd, hbd⟩ : ∃ t, t = (takeS p6.1 t1).1 := ⟨_, rfl⟩
 rw [← ht1, ← ht2, ← hky, ← hbd] at hm1
 rw [← ht1, ← ht2] at hm2
 have hkl : ky.length = 32 := by rw [hky]; exact keyS_len s
 have hfix : t2 = s → t1 = s := fun h => by rw [ht1]; exact keyS_fix (k := p6.1) (by rw [← ht1, ← ht2]; exact h)
 refine C.skip (At.thenCode (C.seq (C.block ?_)))
 refine C.regionAnyC (fun k => k = g9) (fun w => Rdr w g9 q c b s) (fun w => Rdr w g9 q c b t1) (fun w => Rdr w g9 q c b t2) 3 6 (fun _ _ h x => h.ext x) (fun _ _ h x => h.ext x) 9 (E_ (.pointer (some ⟨g5, 3, none⟩)) :: E_ (vl) :: E_ (.pointer (some ⟨g9, 0, none⟩)) :: (fun v w => v = .agg (ky.map byteV).toArray ∧ (Rdr w g9 q c b t1 ∨ Rdr w g9 q c b t2)) :: E_ (.pointer (some ⟨g9, 0, none⟩)) :: E_ (.int .i64 (p6.1 : Int)) :: (fun v w => (∃ ao c', v = .slice ao bd.length c' ∧ NewB wm w ao c' bd) ∧ Rdr w g9 q c b t2) :: (fun v w => ∃ ao c', v = .agg (ky.map byteV ++ [Value.slice ao bd.length c']).toArray ∧ NewB wm w ao c' bd) :: (fun v w => ∃ ao c', LitP wm 33 (ky.map byteV ++ [Value.slice ao bd.length c']) v w ∧ NewB wm w ao c' bd) :: []) [(0, .slice q b.length c), (2, .pointer (some ⟨g2, 0, none⟩)), (4, .pointer (some ⟨g9, 0, none⟩)), (5, .pointer (some ⟨g5, 0, none⟩)), (6, .int .i64 (p5.1 : Int)), (7, .int .i64 (p6.1 : Int)), (8, .int .i64 (i : Int))] [] (sc rfl (sc rfl (sc rfl (sc rfl (sc rfl (sc rfl (sc rfl (Sub.nil)))))))) (Sub.nil) (sc rfl (sc rfl (sc rfl (sc rfl (sc rfl (sc rfl (sc rfl (Sub.nil)))))))) (by kernel_rfl) rfl rfl rfl (sN (sN (sN (sM (fun _ _ _ h g => ⟨h.1, g.2.1 rfl h.2⟩) (sN (sN (sM (fun _ _ _ h g => ⟨by obtain ⟨ao, c', e, h1, h2⟩ := h.1; exact ⟨ao, c', e, h1.chg g.1 (fun ad ea hn hk => by have := h2 ad ea (by simpa using hn); omega), h2⟩, g.2.2 rfl h.2⟩) (sM (fun _ _ _ h g => by obtain ⟨ao, c', e, h1, h2⟩ := h; exact ⟨ao, c', e, h1.chg g.1 (fun ad ea hn hk => by have := h2 ad ea (by simpa using hn); omega), h2⟩) (sM (fun _ _ _ h g => by obtain ⟨ao, c', ⟨g4, e1, e2, e3⟩, h1, h2⟩ := h; exact ⟨ao, c', ⟨g4, e1, e2.chg g.1 (fun ad ea hn hk => by obtain rfl := Option.some.inj ea; simp at hk; omega), e3⟩, h1.chg g.1 (fun ad ea hn hk => by have := h2 ad ea (by simpa using hn); omega), h2⟩) (trivial)))))))))) ?_ ?_
 refine And.intro ?_ ?_
 intro L_ wr hX_ hs_ hf_ hd_
 refine W.s1 (hs_ 5 _ rfl) (W.fieldB (off := 3) (size := 1) (t := 37) (Fld.of (by kernel_rfl)) rfl rfl rfl (W.nil ?_))
 exact At.stepF (Chain.refl _) rfl
 refine And.intro ?_ ?_
 intro L_ wr hX_ hs_ hf_ hd_
 obtain ⟨_, e0, rfl⟩ := hd_ 0 rfl
 refine W.s1 (e0 _ rfl) ?_
 have hBr' : Bk wr g5 [.int .i64 (p1.1 : Int), .int .i64 (p2.1 : Int), vi, vl] := hBm.chg hX_.1 (by omega)
 refine W.loadB rfl Tryz.underlying37 rfl hBr' rfl rfl ?_
 refine W.nil ?_
 exact At.stepF (Chain.refl _) rfl
 refine And.intro ?_ ?_
 intro L_ wr hX_ hs_ hf_ hd_
 refine W.s1 (hs_ 4 _ rfl) (W.move rfl rfl (W.nil ?_))
 exact At.stepF (Chain.refl _) rfl
 refine And.intro ?_ ?_
 intro L_ wr hX_ hs_ hf_ hd_
 obtain ⟨_, e2, rfl⟩ := hd_ 2 rfl
 refine W.s1 (e2 _ rfl) ?_
 have hr := hX_.2.1 rfl hRm
 refine W.call Tryz.call96 rfl (Cod.key_ok g9 q c b s _ hr hlen) rfl ?_
 rintro v50 w50 ⟨rfl, hP50⟩
 rw [← ht1] at hP50
 rw [← hky]
 refine W.nil ?_
 exact At.stepF (Chain.one (by kernel_rfl) hP50.chg hP50.rdr) ⟨rfl, Or.inl hP50.rdr⟩
 refine And.intro ?_ ?_
 intro L_ wr hX_ hs_ hf_ hd_
 refine W.s1 (hs_ 4 _ rfl) (W.move rfl rfl (W.nil ?_))
 exact At.stepF (Chain.refl _) rfl
 refine And.intro ?_ ?_
 intro L_ wr hX_ hs_ hf_ hd_
 refine W.s1 (hs_ 7 _ rfl) (W.move rfl rfl (W.nil ?_))
 exact At.stepF (Chain.refl _) rfl
 refine And.intro ?_ ?_
 intro L_ wr hX_ hs_ hf_ hd_
 obtain ⟨_, e4, rfl⟩ := hd_ 4 rfl
 obtain ⟨_, e5, rfl⟩ := hd_ 5 rfl
 refine W.s2 (e4 _ rfl) (e5 _ rfl) ?_
 have hr : Rdr wr g9 q c b t1 := by
   obtain ⟨_, _, _, hR3'⟩ := hd_ 3 rfl
   rcases hR3' with h | h
   exact h
   rcases (hX_.2.2 rfl).1 hRm with h' | h'
   have := hfix (h.uniq h'); rw [this]; exact h'
   exact h'
 refine W.call Tryz.call97 rfl (Cod.rbytes_ok g9 q c b t1 p6.1 _ hr hlen (by omega)) rfl ?_
 rintro v53 w53 ⟨ao53, c53, rfl, hN53, hP53⟩
 rw [← ht2] at hP53
 rw [← hbd] at hN53 ⊢
 refine W.nil ?_
 exact At.stepF (Chain.two (by kernel_rfl) hP53.chg hP53.rdr) ⟨⟨ao53, c53, rfl, hN53.old (Chg.size hX_.1)⟩, hP53.rdr⟩
 refine And.intro ?_ ?_
 intro L_ wr hX_ hs_ hf_ hd_
 obtain ⟨v3, e3, r3⟩ := hd_ 3 rfl
 obtain ⟨rfl, hR3⟩ := r3
 obtain ⟨v6, e6, r6⟩ := hd_ 6 rfl
 obtain ⟨⟨ao53, c53, rfl, hN53⟩, hR6⟩ := r6
 refine W.s2 (e3 _ rfl) (e6 _ rfl) ?_
 refine W.buildS (fs := _) [(0, 32), (32, 1)] (ky.map byteV ++ [Value.slice ao53 bd.length c53]) (Z32 ++ [Value.slice none 0 0]) Tryz.underlying58 (by kernel_rfl) (by kernel_rfl) rfl (by rw [fill_cons (us := ky.map byteV) (off := 0) rfl (by rw [List.length_map, hkl]; rfl) (by rw [List.length_map, hkl]; decide)]; rw [show KW.splice (Z32 ++ [Value.slice none 0 0]) 0 (ky.map byteV) = ky.map byteV ++ [Value.slice none 0 0] from by have := splice_mid (pre := []) (mid := Z32) (post := [Value.slice none 0 0]) (xs := ky.map byteV) (by rw [List.length_map, hkl]; rfl); simpa using this]; rw [fill_cons (us := [Value.slice ao53 bd.length c53]) (off := 32) rfl rfl (by simp; omega)]; rw [show KW.splice (ky.map byteV ++ [Value.slice none 0 0]) 32 [Value.slice ao53 bd.length c53] = ky.map byteV ++ [Value.slice ao53 bd.length c53] from by have := subL_splice hkl [Value.slice ao53 bd.length c53] [Value.slice none 0 0] 0; exact this]; rfl) rfl ?_
 refine W.nil ?_
 exact At.stepF (Chain.refl _) ⟨ao53, c53, rfl, hN53⟩
 refine And.intro ?_ ?_
 intro L_ wr hX_ hs_ hf_ hd_
 obtain ⟨v7, e7, r7⟩ := hd_ 7 rfl
 obtain ⟨ao54, c54, rfl, hN54⟩ := r7
 refine W.s1 (e7 _ rfl) ?_
 refine W.litS (ky.map byteV ++ [Value.slice ao54 bd.length c54]) ELet Tryz.underlying37 rfl (by simp [hkl]) (by decide) rfl ?_
 intro g55 w55 hg55 hX55 _ hs55
 refine W.nil ?_
 exact At.stepF (Chain.ofExt (fun _ _ h x => h.ext x) (fun _ _ h x => h.ext x) (fun _ _ h x => h.ext x) hX55) ⟨ao54, c54, ⟨g55, rfl, hs55, by have := Chg.size hX_.1; omega⟩, hN54.ext hX55⟩
 exact trivial
 intro L_ wr hX11 hs_ hv_
 obtain ⟨v6, e6, r6⟩ := hv_ 6 (by decide)
 obtain ⟨⟨ao53, c53, rfl, hN53⟩, hR6⟩ := r6
 obtain ⟨v1, e1, r1⟩ := hv_ 1 (by decide)
 obtain rfl : (vl : Value) = v1 := Eq.symm r1
 obtain ⟨v8, e8, r8⟩ := hv_ 8 (by decide)
 obtain ⟨aoL, cL, ⟨g8, rfl, hs8, hg8⟩, hN8⟩ := r8
 refine W.weaken (l' := [(53, _), (48, _), (55, _), (0, _), (2, _), (4, _), (5, _), (6, _), (7, _), (8, _)]) (sc (e6 _ rfl) (sc (e1 _ rfl) (sc (e8 _ rfl) (sc (hs_ _ _ rfl) (sc (hs_ _ _ rfl) (sc (hs_ _ _ rfl) (sc (hs_ _ _ rfl) (sc (hs_ _ _ rfl) (sc (hs_ _ _ rfl) (sc (hs_ _ _ rfl) (Sub.nil))))))))))) ?_
 have hC11 : Chg (fun k => k = g9) wm wr := hX11
 have hsr := hC11.size
 have hXr : Ext w wr := hXm.news hC11 fun k hk => Or.inr (by omega)
 have hEr : OwE (fun k => k < w32.heap.size) wr w.heap.size 58 33 RLet vl ls := OwE.chg rLet hEm (hC11.mono fun k hk => by have := hRl.lt; have := hP32.rdr.lt; omega) (fun k hk hA => by have := hnm k hk; omega)
 have hR56 : RLet (fun k => k < w32.heap.size ∨ vl.ownBlock = some k) wr (ky.map byteV ++ [Value.slice aoL bd.length cL]) (ky, bd) := ⟨_, rfl, hN8.byt (fun k hk => by rcases hk with h | h; omega; exact (hEm.lt k h).2), hkl⟩
 refine W.appendE (ys := [(ky, bd)]) rLet ELet Tryz.underlying37 rfl rfl hEr (Els.lit hs8 hR56 (fun hq => by rcases hq with h | h; omega; have := (hEm.lt _ h).2; omega)) (by simp; omega) (by simp; omega) (by have := hXr.size; omega) rfl ?_
 intro v56 w56 hO56 hg56 hl56
 have hcell := fun k (hk : some k = vl.ownBlock) => hnm k hk.symm
 have hg9l : g9 < w32.heap.size := hP32.rdr.lt
 have hg5l : g5 < w32.heap.size := hB32.lt
 have hg2l : g2 < w32.heap.size := hB2f.lt
 have hB56 : Bk w56 g5 [.int .i64 (p1.1 : Int), .int .i64 (p2.1 : Int), vi, vl] := (hBm.chg hC11 (by omega)).chg (Chg.of_grown hg56) (fun e => by have := hcell _ e; omega)
 have hB2g := (hB2m.chg hC11 (by omega)).chg (Chg.of_grown hg56) (fun e => by have := hcell _ e; omega)
 have hO56i : w56.ownsRow w.heap.size 83 1 vi p4.1.length (p4.1.map u64V) := ownsRow_chg (ownsRow_chg hOm hC11 (fun k hk e => by have := hnl k hk; omega)) (Chg.of_grown hg56) (fun k hk e => by have := hcell _ e; have := hvil k hk; omega)
 have hX56 : Ext w w56 := hXr.news (Chg.of_grown hg56) fun k hk => Or.inr (hEr.lt k hk.symm).1
 have hn56 : ∀ k, v56.ownBlock = some k → w32.heap.size ≤ k := by
   intro k hk
   rcases hl56 with h | ⟨k', h, hk'⟩
   rw [h] at hk; exact hnm k hk
   rw [h] at hk; obtain rfl := Option.some.inj hk; omega
 obtain ⟨a56, c56, rfl, _, _⟩ := OwE.form rLet hO56 (fun k hk hA => by have := hn56 k hk; omega)
 refine W.fieldB (off := 3) (size := 1) (t := 37) (Fld.of (by kernel_rfl)) rfl rfl rfl ?_
 refine W.store1 rfl rfl rfl hB56 (by simp) (by kernel_rfl) ?_
 intro w57 hc57 hB57
 have hX57 : Ext w w57 := hX56.news hc57 fun k hk => Or.inr (by have := hX16.size; omega)
 refine W.nil (At.blockNormal (At.thenCode (C.region (W.move rfl rfl ?_))))
 refine W.addI rfl rfl (by omega) rfl ?_
 refine W.assign rfl rfl (W.nil ?_)
 refine At.thenRound (i + 1, Value.slice a56 (ls ++ [(ky, bd)]).length c56, ls ++ [(ky, bd)], t2) (sc rfl (sc rfl (sc rfl (sc rfl (sc rfl (sc rfl (sc (look_eq rfl (iV (by omega))) (Sub.nil)))))))) (show (i + 1) ≤ p5.1 ∧ Ext w _ ∧ w32.heap.size ≤ (World.heap _).size ∧ Rdr _ g9 q c b (t2) ∧ Bk _ g5 [.int .i64 (p1.1 : Int), .int .i64 (p2.1 : Int), vi, (Value.slice a56 (ls ++ [(ky, bd)]).length c56)] ∧ Bk _ g2 [.int .i64 0, .int .i64 0, .slice none 0 0, .slice none 0 0] ∧ World.ownsRow _ w.heap.size 83 1 vi p4.1.length (p4.1.map u64V) ∧ OwE (fun k => k < w32.heap.size) _ w.heap.size 58 33 RLet (Value.slice a56 (ls ++ [(ky, bd)]).length c56) (ls ++ [(ky, bd)]) ∧ (∀ k, (Value.slice a56 (ls ++ [(ky, bd)]).length c56).ownBlock = some k → w32.heap.size ≤ k) ∧ (ls ++ [(ky, bd)]).length = (i + 1) ∧ p7.1 = (ls ++ [(ky, bd)]) ++ (rdLets p6.1 (p5.1 - (i + 1)) (t2)).1 ∧ p7.2 = (rdLets p6.1 (p5.1 - (i + 1)) (t2)).2 from ?_) (show p5.1 - (i + 1) < p5.1 - i from ?_)
 refine ⟨by omega, hX57, by have := hg56.size; have := hc57.size; omega, ?_, by simpa using hB57, hB2g.chg hc57 (by omega), ownsRow_chg hO56i hc57 (fun k hk e => by have := hnl k hk; omega), OwE.chg rLet hO56 (hc57.mono fun k hk => by omega) (fun k hk hA => by have := hn56 k hk; omega), hn56, by simp; omega, ?_, ?_⟩
 obtain ⟨p', e', r1, r2⟩ := hR6.out
 exact ⟨⟨p', e', (r1.chg (Chg.of_grown hg56) (fun e => by have := hcell _ e; omega)).chg hc57 (by omega), r2⟩, hb.ext hX57, hR6.far⟩
 rw [hm1, show p5.1 - (i + 1) = p5.1 - i - 1 by omega]; simp
 rw [hm2, show p5.1 - (i + 1) = p5.1 - i - 1 by omega]
 omega
 -- known too
 have hstop : s.1 ≠ 0 ∨ p5.1 - i = 0 := by first | (left; omega) | (right; omega)
 rw [rdLets_stop hstop] at hm1 hm2
 have hm1 : p7.1 = ls := by rw [hm1]; simp
 have hm2 : p7.2 = s := hm2
 subst hm1
 rw [← hm2] at hRm
 refine C.exit (At.thenExit (At.thenExit (At.blockSelf (At.thenCode (C.seq (C.seq (C.region (W.move rfl rfl ?_))))))))
 refine W.call Tryz.call98 rfl (Cod.over_ok g9 q c b p7.2 _ hRm hlen) rfl ?_
 rintro v59 w59 ⟨rfl, hC59⟩
 have hg9l : g9 < w32.heap.size := hP32.rdr.lt
 have hB59 := hBm.chg hC59 (by omega)
 have hB2h := hB2m.chg hC59 (by omega)
 have hX59 : Ext w w59 := hXm.news hC59 fun k hk => Or.inr (by omega)
 have hO59 : w59.ownsRow w.heap.size 83 1 vi p4.1.length (p4.1.map u64V) := ownsRow_chg hOm hC59 (fun k hk e => by have := hnl k hk; omega)
 have hE59 : OwE (fun k => k < w32.heap.size) w59 w.heap.size 58 33 RLet vl p7.1 := OwE.chg rLet hEm (hC59.mono fun k hk => by omega) (fun k hk hA => by have := hnm k hk; omega)
 rw [← hRE]
 obtain ⟨aL, cL', rfl, hElL, _⟩ := OwE.form rLet hE59 (fun k hk hA => by have := hnm k hk; omega)
 obtain ⟨aI, cI, rfl, hUI, hbI⟩ := ownsRow_form hO59
 refine W.assign rfl rfl (W.nil (At.thenCode (C.seq (C.region (W.move rfl rfl (W.neqI rfl rfl rfl (W.nil (At.thenCode ?_))))))))
 refine C.condD rfl (fun c61 => ?_) (fun c61 => ?_)
 refine C.seq (C.region ?_)
 refine W.buildS (fs := _) [(0, 1), (1, 1), (2, 1), (3, 1)] [.int .i64 0, .int .i64 0, .slice none 0 0, .slice none 0 0] [.int .i64 0, .int .i64 0, .slice none 0 0, .slice none 0 0] Tryz.underlying39 (by kernel_rfl) (by kernel_rfl) rfl rfl rfl ?_
 refine W.move rfl rfl ?_
 refine W.storeA [.int .i64 0, .int .i64 0, .slice none 0 0, .slice none 0 0] rfl rfl hB2h rfl (by kernel_rfl) (by intro u hu; simp at hu; rcases hu with rfl | rfl <;> rfl) ?_
 intro w62 hc62 hB62
 refine W.assign rfl rfl (W.nil (At.thenCode (C.ret (At.thenRet ?_))))
 -- RESULT IN A CELL
 first
 | (have h0 : batRE b = 0 := by omega
    have hR : batR b = batS b := by unfold batR; rw [if_pos h0]
    refine At.retCT Tryz.results58 rfl rfl (hB64.cells (o := 0)) Tryz.underlying39 rfl (by kernel_rfl) ?_
    rw [hR, hS]
    refine ⟨_, _, by rw [h0]; rfl, ⟨aI, cI, rfl, ?_, fun ad ea hne hlt => by have := hbI ad ea; omega, hI4⟩, ?_, hX59.news hc64 fun k hk => Or.inr (by omega)⟩
    exact hUI.chg hc64 (fun ad ea hne hk => by subst ea; have := hnl ad.block rfl; omega)
    refine (rSl 33 rLet).new ((rSl 33 rLet).chg (A := fun k => k < w32.heap.size) ⟨aL, cL', rfl, hElL⟩ (hc64.mono fun k hk => by omega)) fun k hk _ => by have := hX32.size; omega)
 | (have h0 : ¬ batRE b = 0 := by omega
    have hR : batR b = zeroBat := by unfold batR; rw [if_neg h0]
    refine At.retCT Tryz.results58 rfl rfl (hB62.cells (o := 0)) Tryz.underlying39 rfl (by kernel_rfl) ?_
    rw [hR]
    exact ⟨.slice none 0 0, .slice none 0 0, rfl, ⟨none, 0, rfl, Sl.none _ _, (fun ad e => by cases e), fun x hx => by cases hx⟩, ⟨none, 0, rfl, Els.nil _ _ _ _⟩, hX59.news hc62 fun k hk => Or.inr (by omega)⟩)
 refine C.skip (At.thenCode (C.seq (C.region ?_)))
 refine W.loadA rfl (hB59.cells (o := 0)) Tryz.underlying39 rfl (by kernel_rfl) rfl ?_
 refine W.storeA [.int .i64 (p1.1 : Int), .int .i64 (p2.1 : Int), .slice aI p4.1.length cI, .slice aL p7.1.length cL'] rfl rfl hB2h rfl (by kernel_rfl) (by intro u hu; simp at hu; rcases hu with rfl | rfl | rfl | rfl <;> rfl) ?_
 intro w64 hc64 hB64
 refine W.assign rfl rfl (W.nil (At.thenCode (C.ret ?_)))
 -- RESULT IN A CELL
 first
 | (have h0 : batRE b = 0 := by omega
    have hR : batR b = batS b := by unfold batR; rw [if_pos h0]
    refine At.retCT Tryz.results58 rfl rfl (hB64.cells (o := 0)) Tryz.underlying39 rfl (by kernel_rfl) ?_
    rw [hR, hS]
    refine ⟨_, _, by rw [h0]; rfl, ⟨aI, cI, rfl, ?_, fun ad ea hne hlt => by have := hbI ad ea; omega, hI4⟩, ?_, hX59.news hc64 fun k hk => Or.inr (by omega)⟩
    exact hUI.chg hc64 (fun ad ea hne hk => by subst ea; have := hnl ad.block rfl; omega)
    refine (rSl 33 rLet).new ((rSl 33 rLet).chg (A := fun k => k < w32.heap.size) ⟨aL, cL', rfl, hElL⟩ (hc64.mono fun k hk => by omega)) fun k hk _ => by have := hX32.size; omega)
 | (have h0 : ¬ batRE b = 0 := by omega
    have hR : batR b = zeroBat := by unfold batR; rw [if_neg h0]
    refine At.retCT Tryz.results58 rfl rfl (hB62.cells (o := 0)) Tryz.underlying39 rfl (by kernel_rfl) ?_
    rw [hR]
    exact ⟨.slice none 0 0, .slice none 0 0, rfl, ⟨none, 0, rfl, Sl.none _ _, (fun ad e => by cases e), fun x hx => by cases hx⟩, ⟨none, 0, rfl, Els.nil _ _ _ _⟩, hX59.news hc62 fun k hk => Or.inr (by omega)⟩)
 refine W.skips rfl rfl rfl rfl rfl rfl (W.skips rfl rfl rfl rfl rfl rfl (W.skips rfl rfl rfl rfl rfl rfl (W.skips rfl rfl rfl rfl rfl rfl (W.skips rfl rfl rfl rfl rfl rfl (W.pickF rfl rfl rfl (W.nil (At.thenCode ?_)))))))
 refine C.condF rfl ?_
 -- known too
 have hstop : s.1 ≠ 0 ∨ p5.1 - i = 0 := by first | (left; omega) | (right; omega)
 rw [rdLets_stop hstop] at hm1 hm2
 have hm1 : p7.1 = ls := by rw [hm1]; simp
 have hm2 : p7.2 = s := hm2
 subst hm1
 rw [← hm2] at hRm
 refine C.exit (At.thenExit (At.thenExit (At.blockSelf (At.thenCode (C.seq (C.seq (C.region (W.move rfl rfl ?_))))))))
 refine W.call Tryz.call98 rfl (Cod.over_ok g9 q c b p7.2 _ hRm hlen) rfl ?_
 rintro v59 w59 ⟨rfl, hC59⟩
 have hg9l : g9 < w32.heap.size := hP32.rdr.lt
 have hB59 := hBm.chg hC59 (by omega)
 have hB2h := hB2m.chg hC59 (by omega)
 have hX59 : Ext w w59 := hXm.news hC59 fun k hk => Or.inr (by omega)
 have hO59 : w59.ownsRow w.heap.size 83 1 vi p4.1.length (p4.1.map u64V) := ownsRow_chg hOm hC59 (fun k hk e => by have := hnl k hk; omega)
 have hE59 : OwE (fun k => k < w32.heap.size) w59 w.heap.size 58 33 RLet vl p7.1 := OwE.chg rLet hEm (hC59.mono fun k hk => by omega) (fun k hk hA => by have := hnm k hk; omega)
 rw [← hRE]
 obtain ⟨aL, cL', rfl, hElL, _⟩ := OwE.form rLet hE59 (fun k hk hA => by have := hnm k hk; omega)
 obtain ⟨aI, cI, rfl, hUI, hbI⟩ := ownsRow_form hO59
 refine W.assign rfl rfl (W.nil (At.thenCode (C.seq (C.region (W.move rfl rfl (W.neqI rfl rfl rfl (W.nil (At.thenCode ?_))))))))
 refine C.condD rfl (fun c61 => ?_) (fun c61 => ?_)
 refine C.seq (C.region ?_)
 refine W.buildS (fs := _) [(0, 1), (1, 1), (2, 1), (3, 1)] [.int .i64 0, .int .i64 0, .slice none 0 0, .slice none 0 0] [.int .i64 0, .int .i64 0, .slice none 0 0, .slice none 0 0] Tryz.underlying39 (by kernel_rfl) (by kernel_rfl) rfl rfl rfl ?_
 refine W.move rfl rfl ?_
 refine W.storeA [.int .i64 0, .int .i64 0, .slice none 0 0, .slice none 0 0] rfl rfl hB2h rfl (by kernel_rfl) (by intro u hu; simp at hu; rcases hu with rfl | rfl <;> rfl) ?_
 intro w62 hc62 hB62
 refine W.assign rfl rfl (W.nil (At.thenCode (C.ret (At.thenRet ?_))))
 -- RESULT IN A CELL
 first
 | (have h0 : batRE b = 0 := by omega
    have hR : batR b = batS b := by unfold batR; rw [if_pos h0]
    refine At.retCT Tryz.results58 rfl rfl (hB64.cells (o := 0)) Tryz.underlying39 rfl (by kernel_rfl) ?_
    rw [hR, hS]
    refine ⟨_, _, by rw [h0]; rfl, ⟨aI, cI, rfl, ?_, fun ad ea hne hlt => by have := hbI ad ea; omega, hI4⟩, ?_, hX59.news hc64 fun k hk => Or.inr (by omega)⟩
    exact hUI.chg hc64 (fun ad ea hne hk => by subst ea; have := hnl ad.block rfl; omega)
    refine (rSl 33 rLet).new ((rSl 33 rLet).chg (A := fun k => k < w32.heap.size) ⟨aL, cL', rfl, hElL⟩ (hc64.mono fun k hk => by omega)) fun k hk _ => by have := hX32.size; omega)
 | (have h0 : ¬ batRE b = 0 := by omega
    have hR : batR b = zeroBat := by unfold batR; rw [if_neg h0]
    refine At.retCT Tryz.results58 rfl rfl (hB62.cells (o := 0)) Tryz.underlying39 rfl (by kernel_rfl) ?_
    rw [hR]
    exact ⟨.slice none 0 0, .slice none 0 0, rfl, ⟨none, 0, rfl, Sl.none _ _, (fun ad e => by cases e), fun x hx => by cases hx⟩, ⟨none, 0, rfl, Els.nil _ _ _ _⟩, hX59.news hc62 fun k hk => Or.inr (by omega)⟩)
 refine C.skip (At.thenCode (C.seq (C.region ?_)))
 refine W.loadA rfl (hB59.cells (o := 0)) Tryz.underlying39 rfl (by kernel_rfl) rfl ?_
 refine W.storeA [.int .i64 (p1.1 : Int), .int .i64 (p2.1 : Int), .slice aI p4.1.length cI, .slice aL p7.1.length cL'] rfl rfl hB2h rfl (by kernel_rfl) (by intro u hu; simp at hu; rcases hu with rfl | rfl | rfl | rfl <;> rfl) ?_
 intro w64 hc64 hB64
 refine W.assign rfl rfl (W.nil (At.thenCode (C.ret ?_)))
 -- RESULT IN A CELL
 first
 | (have h0 : batRE b = 0 := by omega
    have hR : batR b = batS b := by unfold batR; rw [if_pos h0]
    refine At.retCT Tryz.results58 rfl rfl (hB64.cells (o := 0)) Tryz.underlying39 rfl (by kernel_rfl) ?_
    rw [hR, hS]
    refine ⟨_, _, by rw [h0]; rfl, ⟨aI, cI, rfl, ?_, fun ad ea hne hlt => by have := hbI ad ea; omega, hI4⟩, ?_, hX59.news hc64 fun k hk => Or.inr (by omega)⟩
    exact hUI.chg hc64 (fun ad ea hne hk => by subst ea; have := hnl ad.block rfl; omega)
    refine (rSl 33 rLet).new ((rSl 33 rLet).chg (A := fun k => k < w32.heap.size) ⟨aL, cL', rfl, hElL⟩ (hc64.mono fun k hk => by omega)) fun k hk _ => by have := hX32.size; omega)
 | (have h0 : ¬ batRE b = 0 := by omega
    have hR : batR b = zeroBat := by unfold batR; rw [if_neg h0]
    refine At.retCT Tryz.results58 rfl rfl (hB62.cells (o := 0)) Tryz.underlying39 rfl (by kernel_rfl) ?_
    rw [hR]
    exact ⟨.slice none 0 0, .slice none 0 0, rfl, ⟨none, 0, rfl, Sl.none _ _, (fun ad e => by cases e), fun x hx => by cases hx⟩, ⟨none, 0, rfl, Els.nil _ _ _ _⟩, hX59.news hc62 fun k hk => Or.inr (by omega)⟩)
end Go.Proofs.YthiijdbiikljpaaGreat.Cod
