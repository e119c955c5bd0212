/- The reference's functions that read: batches. The reference's store: what is past goes; what may be taken. The reference's store: a record read is done again. The reference's store: opening. -/
import Derived.Test.YthiijdbiikljpaaGreatZk
import Derived.Test.YthiijdbiikljpaaGreatZl
namespace Go.Proofs.YthiijdbiikljpaaGreat.Cod
open Go Go.RowKit Go.Proofs.YthiijdbiikljpaaGreat.KW Go.Proofs.YthiijdbiikljpaaGreat.Words Go.Proofs.YthiijdbiikljpaaGreat.Grp
set_option linter.unusedVariables false
set_option linter.unusedSimpArgs false
set_option maxRecDepth 100000
theorem RReadBatch_ok (q : Option Addr) (c : Nat) (b : List UInt8) (w : World) (hb : Bs w q c b) (hlen : b.length ≤ 1099511627776) :
   Ct Tryz.prog 43 #[.slice q b.length c] w (fun v w' => ∃ vi vl, v = .tuple #[.agg (batC (batR b) vi vl).toArray, .int .i64 (batRE b : Int)] ∧ RNums (fun k => k < w.heap.size) w' [vi] (batR b).inner ∧ RSl 33 RLet (fun k => k < w.heap.size) w' [vl] (batR b).lets ∧ Ext w w') := by
 refine Ct.enter [(0, .slice q b.length c)] Tryz.func43 rfl rfl rfl rfl ?_
 have hS0 := batS_ok b
 have q1 := bat1_eq b
 have q2 := bat2_eq b
 have q3 := bat3_eq b
 have q4 := bat4_eq b
 have q5 := bat5_eq b
 have q6 := bat6_eq b
 have q7 := bat7_eq b
 have hS : batS b = ⟨((bat1 b).1 : Int), ((bat2 b).1 : Int), (bat4 b).1, (bat7 b).1⟩ := rfl
 have hRE : batRE b = overS (bat7 b).2 := rfl
 generalize bat1 b = p1 at *
 generalize bat2 b = p2 at *
 generalize bat3 b = p3 at *
 generalize bat4 b = p4 at *
 generalize bat5 b = p5 at *
 generalize bat6 b = p6 at *
 generalize bat7 b = p7 at *
 rw [hS] at hS0
 have hn20 : p3.1 ≤ 20 := by rw [q3]; exact intS_le _ _
 have hn1000 : p5.1 ≤ 1000 := by rw [q5]; exact intS_le _ _
 have hk20 : p6.1 ≤ 1048576 := by rw [q6]; exact intS_le 1048576 _
 have hI4 : ∀ x ∈ p4.1, x < M64 := hS0.2.2.1
 refine C.seq (C.region ?_)
 refine W.alloc (z := .agg #[.int .i64 0, .int .i64 0, .slice none 0 0, .slice none 0 0]) [.int .i64 0, .int .i64 0, .slice none 0 0, .slice none 0 0] (by kernel_rfl) rfl rfl ?_
 intro g2 w2 hg2 hX2 hB2
 refine W.assign rfl rfl (W.nil (At.thenCode (C.seq (C.region (W.move rfl rfl ?_)))))
 refine W.buildS (fs := _) [(0, 1), (1, 1), (2, 1)] (RdrC q c b) [.slice none 0 0, .int .i64 0, .int .i64 0] Tryz.underlying130 (by kernel_rfl) (by kernel_rfl) rfl rfl rfl ?_
 refine W.box (RdrC q c b) rfl rfl rfl ?_
 intro g9 w9 hg9 hX9 hB9
 have hX9a := hX2.ext hX9
 have hr9 : Rdr w9 g9 q c b (0, b) := Rdr.mk' hB9 (hb.ext hX9a) (far_new hb (by have := hX2.size; omega))
 have hB2a := hB2.ext hX9
 have hl2 := hB2.lt
 have hl9 := hB9.lt
 have hgw : w.heap.size ≤ g9 := by have := hX2.size; omega
 refine W.assign rfl rfl (W.nil (At.thenCode (C.seq (C.region ?_))))
 refine W.alloc (z := .agg #[.int .i64 0, .int .i64 0, .slice none 0 0, .slice none 0 0]) [.int .i64 0, .int .i64 0, .slice none 0 0, .slice none 0 0] (by kernel_rfl) rfl rfl ?_
 intro g5 w5 hg5 hX5 hB5
 have hr5 := hr9.ext hX5
 have hX5a := hX9a.ext hX5
 have hB2b := hB2a.ext hX5
 refine W.nil (At.thenCode (C.seq (C.region (W.move rfl rfl ?_))))
 refine W.call Tryz.call78 rfl (Cod.Rmost_ok g9 q c b (0, b) maxInt _ hr5 hlen (by decide)) rfl ?_
 rintro v14 w14 ⟨rfl, hP14⟩
 rw [← q1] at hP14 ⊢
 have hB14 := hB5.chg hP14.chg (by omega)
 have hB2c := hB2b.chg hP14.chg (by omega)
 have hX14 := hP14.old hgw hX5a
 refine W.fieldB (off := 0) (size := 1) (t := 3) (Fld.of (by kernel_rfl)) rfl rfl rfl ?_
 refine W.store1 rfl rfl rfl hB14 (by simp) (by kernel_rfl) ?_
 intro w15 hc15 hB15
 have hX15 : Ext w w15 := hX14.news hc15 fun k hk => Or.inr (by have := hX9a.size; omega)
 have hr15 : Rdr w15 g9 q c b p1.2 := by
   obtain ⟨p, e, r1, r2⟩ := hP14.rdr.out
   exact ⟨⟨p, e, r1.chg hc15 (by omega), r2⟩, hb.ext hX15, hP14.rdr.far⟩
 have hB2d' := hB2c.chg hc15 (by omega)
 refine W.nil (At.thenCode (C.seq (C.region (W.move rfl rfl ?_))))
 refine W.call Tryz.call78 rfl (Cod.Rmost_ok g9 q c b p1.2 maxInt _ hr15 hlen (by decide)) rfl ?_
 rintro v16 w16 ⟨rfl, hP16⟩
 rw [← q2] at hP16 ⊢
 have hB16 := hB15.chg hP16.chg (by omega)
 have hB2e' := hB2d'.chg hP16.chg (by omega)
 have hX16' := hP16.old hgw hX15
 refine W.fieldB (off := 1) (size := 1) (t := 3) (Fld.of (by kernel_rfl)) rfl rfl rfl ?_
 refine W.store1 rfl rfl rfl hB16 (by simp) (by kernel_rfl) ?_
 intro w6 hc6 hB6
 have hB6 : Bk w6 g5 [.int .i64 (p1.1 : Int), .int .i64 (p2.1 : Int), .slice none 0 0, .slice none 0 0] := hB6
 have hX6a : Ext w w6 := hX16'.news hc6 fun k hk => Or.inr (by have := hX9a.size; omega)
 have hr6 : Rdr w6 g9 q c b p2.2 := by
   obtain ⟨p, e, r1, r2⟩ := hP16.rdr.out
   exact ⟨⟨p, e, r1.chg hc6 (by omega), r2⟩, hb.ext hX6a, hP16.rdr.far⟩
 have hB2c' := hB2e'.chg hc6 (by omega)
 have hl5 := hB6.lt
 have hX16 := hX9a
 refine W.nil (At.thenCode (C.seq (C.region (W.move rfl rfl ?_))))
 refine W.call Tryz.call78 rfl (Cod.Rmost_ok g9 q c b p2.2 20 _ hr6 hlen (by decide)) rfl ?_
 rintro v19 w19 ⟨rfl, hP19⟩
 rw [← q3] at hP19 ⊢
 have hX19 := hP19.old hgw hX6a
 have hB19 := hB6.chg hP19.chg (by omega)
 have hB2d := hB2c'.chg hP19.chg (by omega)
 have hl19 := hP19.chg.size
 refine W.assign rfl rfl (W.nil (At.thenCode (C.seq (C.seq (C.region (W.assign rfl rfl (W.nil (At.thenCode (C.block ?_)))))))))
 refine C.loop (X := Nat × Value × (List Nat) × St) (fun x_ => [(0, .slice q b.length c), (2, .pointer (some ⟨g2, 0, none⟩)), (4, .pointer (some ⟨g9, 0, none⟩)), (5, .pointer (some ⟨g5, 0, none⟩)), (6, .int .i64 (p3.1 : Int)), (7, .int .i64 (x_.1 : Int))]) (fun x_ wl => x_.1 ≤ p3.1 ∧ Ext w wl ∧ w6.heap.size ≤ (World.heap wl).size ∧ Rdr wl g9 q c b x_.2.2.2 ∧ Bk wl g5 [.int .i64 (p1.1 : Int), .int .i64 (p2.1 : Int), x_.2.1, .slice none 0 0] ∧ Bk wl g2 [.int .i64 0, .int .i64 0, .slice none 0 0, .slice none 0 0] ∧ World.ownsRow wl w.heap.size 83 1 x_.2.1 x_.2.2.1.length (x_.2.2.1.map u64V) ∧ (∀ k, x_.2.1.ownBlock = some k → w6.heap.size ≤ k) ∧ x_.2.2.1.length = x_.1 ∧ p4.1 = x_.2.2.1 ++ (rdNums (p3.1 - x_.1) x_.2.2.2).1 ∧ p4.2 = (rdNums (p3.1 - x_.1) x_.2.2.2).2) (fun x_ => p3.1 - x_.1) (0, Value.slice none 0 0, [], p3.2) (sc rfl (sc rfl (sc rfl (sc rfl (sc rfl (sc rfl (Sub.nil))))))) ?start1 ?_
 case start1 =>
   show (0) ≤ p3.1 ∧ Ext w _ ∧ w6.heap.size ≤ (World.heap _).size ∧ Rdr _ g9 q c b (p3.2) ∧ Bk _ g5 [.int .i64 (p1.1 : Int), .int .i64 (p2.1 : Int), (Value.slice none 0 0), .slice none 0 0] ∧ Bk _ g2 [.int .i64 0, .int .i64 0, .slice none 0 0, .slice none 0 0] ∧ World.ownsRow _ w.heap.size 83 1 (Value.slice none 0 0) ([]).length (([]).map u64V) ∧ (∀ k, (Value.slice none 0 0).ownBlock = some k → w6.heap.size ≤ k) ∧ ([]).length = (0) ∧ p4.1 = ([]) ++ (rdNums (p3.1 - (0)) (p3.2)).1 ∧ p4.2 = (rdNums (p3.1 - (0)) (p3.2)).2
   exact ⟨by omega, hX19, hl19, hP19.rdr, hB19, hB2d, World.ownsRow_nil _ _ _ _, (by intro k e; cases e), rfl, by rw [q4]; rfl, by rw [q4]; rfl⟩
 rintro ⟨i, vi, xs, s⟩ wl hI_
 replace hI_ : i ≤ p3.1 ∧ Ext w wl ∧ w6.heap.size ≤ (World.heap wl).size ∧ Rdr wl g9 q c b s ∧ Bk wl g5 [.int .i64 (p1.1 : Int), .int .i64 (p2.1 : Int), vi, .slice none 0 0] ∧ Bk wl g2 [.int .i64 0, .int .i64 0, .slice none 0 0, .slice none 0 0] ∧ World.ownsRow wl w.heap.size 83 1 vi xs.length (xs.map u64V) ∧ (∀ k, vi.ownBlock = some k → w6.heap.size ≤ k) ∧ xs.length = i ∧ p4.1 = xs ++ (rdNums (p3.1 - i) s).1 ∧ p4.2 = (rdNums (p3.1 - i) s).2 := hI_
 obtain ⟨hi, hXl, hsl, hRl, hBl, hB2l, hOl, hnl, hxl, hq1, hq2⟩ := hI_
 refine C.weaken (l' := [(0, .slice q b.length c), (2, .pointer (some ⟨g2, 0, none⟩)), (4, .pointer (some ⟨g9, 0, none⟩)), (5, .pointer (some ⟨g5, 0, none⟩)), (6, .int .i64 (p3.1 : Int)), (7, .int .i64 (i : Int))]) (sc rfl (sc rfl (sc rfl (sc rfl (sc rfl (sc rfl (Sub.nil))))))) ?_
 obtain ⟨pp, hBe, _, _⟩ := hRl.e
 refine C.seq (C.seq (C.region (W.move rfl rfl (W.move rfl rfl (W.lssI rfl rfl rfl (W.move rfl rfl ?_))))))
 refine W.splitD (fun g27 => ?_) (fun g27 => ?_)
 refine W.wants rfl rfl rfl rfl (W.move rfl rfl (W.wants rfl rfl rfl rfl (W.nilCheck rfl rfl (W.wants rfl rfl rfl rfl (W.fieldB (off := 2) (size := 1) (t := 3) (Fld.of (by kernel_rfl)) rfl rfl rfl (W.wants rfl rfl rfl rfl ?_))))))
 refine W.loadB rfl Tryz.underlying3 rfl (by assumption) rfl rfl ?_
 refine W.wants rfl rfl rfl rfl (W.eqlI rfl rfl rfl (W.pickT rfl rfl rfl (W.nil (At.thenCode ?_))))
 refine C.condD rfl (fun c33 => ?_) (fun c33 => ?_)
 have hi2 : i < p3.1 := by omega
 have hst := rdNums_step (n := p3.1 - i - 1) (s := s)
 rw [show p3.1 - i - 1 + 1 = p3.1 - i by omega] at hst
 rw [hst] at hq1 hq2
 obtain ⟨ai, ci, rfl, hUi, hbi⟩ := ownsRow_form hOl
 refine C.skip (At.thenCode (C.seq (C.block ?_)))
 refine C.regionAnyB (fun k b => k = 3 ∧ b = g9) 5 (E_ (.pointer (some ⟨g5, 2, none⟩)) :: E_ (.slice ai xs.length ci) :: E_ (.pointer (some ⟨g9, 0, none⟩)) :: (fun v w => v = .int .u64 ((numS s).1 : Int) ∧ Rdr w g9 q c b (numS s).2) :: (fun v w => LitP wl 1 [u64V (numS s).1] v w) :: []) [(0, .slice q b.length c), (2, .pointer (some ⟨g2, 0, none⟩)), (4, .pointer (some ⟨g9, 0, none⟩)), (5, .pointer (some ⟨g5, 0, none⟩)), (6, .int .i64 (p3.1 : Int)), (7, .int .i64 (i : Int))] [] (sc rfl (sc rfl (sc rfl (sc rfl (sc rfl (sc rfl (Sub.nil))))))) (Sub.nil) (sc rfl (sc rfl (sc rfl (sc rfl (sc rfl (sc rfl (Sub.nil))))))) (by kernel_rfl) rfl rfl rfl (sN (sN (sN (sM (fun _ _ _ h g => ⟨h.1, h.2.ext (FamPost.ext g (fun k q h1 h2 h3 => h1 h3.1))⟩) (sM (fun _ _ _ h g => h.ext (FamPost.ext g (fun k q h1 h2 h3 => dT_absurd h2 (by rw [h3.1]; kernel_rfl)))) (trivial)))))) ?_ ?_
 refine And.intro ?_ ?_
 intro L_ wr hX_ hs_ hf_ hd_
 exact W.s1 (hs_ 5 _ rfl) (W.fieldB (off := 2) (size := 1) (t := 36) (Fld.of (by kernel_rfl)) rfl rfl rfl (W.eF rfl))
 refine And.intro ?_ ?_
 intro L_ wr hX_ hs_ hf_ hd_
 obtain ⟨_, e0, rfl⟩ := hd_ 0 rfl
 refine W.s1 (e0 _ rfl) ?_
 have hBr : Bk wr g5 [.int .i64 (p1.1 : Int), .int .i64 (p2.1 : Int), .slice ai xs.length ci, .slice none 0 0] := hBl.chg hX_ (by rintro ⟨k, _, _, _, h⟩; omega)
 refine W.loadB rfl Tryz.underlying36 rfl hBr rfl rfl ?_
 exact W.eF rfl
 refine And.intro ?_ ?_
 intro L_ wr hX_ hs_ hf_ hd_
 exact W.s1 (hs_ 4 _ rfl) (W.move rfl rfl (W.eF rfl))
 refine And.intro ?_ ?_
 intro L_ wr hX_ hs_ hf_ hd_
 obtain ⟨_, e2, rfl⟩ := hd_ 2 rfl
 refine W.s1 (e2 _ rfl) ?_
 have hXe := FamPre.ext hX_ (fun k q h1 h2 h3 => h1 h3.1)
 have hr := hRl.ext hXe
 refine W.call Tryz.call79 rfl (Cod.Rnumber_ok g9 q c b s _ hr hlen) rfl ?_
 rintro v25 w25 ⟨rfl, hP25⟩
 refine W.nil ?_
 exact At.stepF (Fam.of 3 (hP25.chg.mono fun k hk => ⟨rfl, hk⟩)) ⟨rfl, hP25.rdr⟩
 refine And.intro ?_ ?_
 intro L_ wr hX_ hs_ hf_ hd_
 obtain ⟨v3, e3, r3⟩ := hd_ 3 rfl
 obtain ⟨rfl, hR3⟩ := r3
 refine W.s1 (e3 _ rfl) ?_
 refine W.litV [u64V (numS s).1] U64 Tryz.underlying36 rfl rfl (fun u hu => by simp at hu; subst hu; rfl) rfl rfl rfl ?_
 intro g26 w26 hg26 hX26 _ hs26
 refine W.nil ?_
 exact At.stepF (Fam.ofExt hX26) ⟨g26, rfl, hs26, by have := Chg.size hX_; omega⟩
 exact trivial
 intro L_ wr hX9 hs_ hv_
 obtain ⟨v3, e3, r3⟩ := hv_ 3 (by decide)
 obtain ⟨rfl, hR3⟩ := r3
 obtain ⟨_, e1, rfl⟩ := hv_ 1 (by decide)
 obtain ⟨v4, e4, r4⟩ := hv_ 4 (by decide)
 obtain ⟨g4, rfl, hs4, hg4⟩ := r4
 refine W.weaken (l' := [(39, _), (37, _), (40, _), (0, _), (2, _), (4, _), (5, _), (6, _), (7, _)]) (sc (e3 _ rfl) (sc (e1 _ rfl) (sc (e4 _ rfl) (sc (hs_ _ _ rfl) (sc (hs_ _ _ rfl) (sc (hs_ _ _ rfl) (sc (hs_ _ _ rfl) (sc (hs_ _ _ rfl) (sc (hs_ _ _ rfl) (Sub.nil)))))))))) ?_
 have hC5 : Chg (fun k => k = g9) wl wr := Chg.mono hX9 fun b ⟨k, h1, h2⟩ => h2
 have hOr : wr.ownsRow w.heap.size 83 1 (.slice ai xs.length ci) xs.length (xs.map u64V) := ownsRow_chg hOl hC5 (fun k hk e => by have := hnl k hk; omega)
 have hXr : Ext w wr := hXl.news hC5 fun k hk => Or.inr (by omega)
 have hsr := hC5.size
 refine W.appendU (ys := [(numS s).1]) U64 Tryz.underlying36 rfl rfl hOr hs4 (by simp; omega) (by have := hXr.size; omega) rfl ?_
 intro v27 w27 ho27 hg27 hl27
 have hcell := fun k (hk : some k = (Value.slice ai xs.length ci).ownBlock) => hnl k hk.symm
 have hB27 : Bk w27 g5 [.int .i64 (p1.1 : Int), .int .i64 (p2.1 : Int), .slice ai xs.length ci, .slice none 0 0] := (hBl.chg hC5 (by omega)).chg (Chg.of_grown hg27) (fun e => by have := hcell _ e; omega)
 have hB2e := (hB2l.chg hC5 (by omega)).chg (Chg.of_grown hg27) (fun e => by have := hcell _ e; omega)
 obtain ⟨a27, c27, rfl, _, _⟩ := ownsRow_form ho27
 refine W.fieldB (off := 2) (size := 1) (t := 36) (Fld.of (by kernel_rfl)) rfl rfl rfl ?_
 refine W.store1 rfl rfl rfl hB27 (by simp) (by kernel_rfl) ?_
 intro w28 hc28 hB28
 have hX27 : Ext w w27 := hXr.news (Chg.of_grown hg27) fun k hk => Or.inr ((World.ownsRow.lt hOr k hk.symm).1)
 have hX28 : Ext w w28 := hX27.news hc28 fun k hk => Or.inr (by have := hX16.size; omega)
 have hn28 : ∀ k, (Value.slice a27 (xs ++ [(numS s).1]).length c27).ownBlock = some k → w6.heap.size ≤ k := by
   intro k hk
   rcases hl27 with h | ⟨k', h, hk'⟩
   rw [h] at hk; exact hnl k hk
   rw [h] at hk; obtain rfl := Option.some.inj hk; omega
 refine W.nil (At.blockNormal (At.thenCode (C.region (W.move rfl rfl ?_))))
 refine W.addI rfl rfl (by omega) rfl ?_
 refine W.assign rfl rfl (W.nil ?_)
 refine At.thenRound (i + 1, Value.slice a27 (xs ++ [(numS s).1]).length c27, xs ++ [(numS s).1], (numS s).2) (sc rfl (sc rfl (sc rfl (sc rfl (sc rfl (sc (look_eq rfl (iV (by omega))) (Sub.nil))))))) (show (i + 1) ≤ p3.1 ∧ Ext w _ ∧ w6.heap.size ≤ (World.heap _).size ∧ Rdr _ g9 q c b ((numS s).2) ∧ Bk _ g5 [.int .i64 (p1.1 : Int), .int .i64 (p2.1 : Int), (Value.slice a27 (xs ++ [(numS s).1]).length c27), .slice none 0 0] ∧ Bk _ g2 [.int .i64 0, .int .i64 0, .slice none 0 0, .slice none 0 0] ∧ World.ownsRow _ w.heap.size 83 1 (Value.slice a27 (xs ++ [(numS s).1]).length c27) (xs ++ [(numS s).1]).length ((xs ++ [(numS s).1]).map u64V) ∧ (∀ k, (Value.slice a27 (xs ++ [(numS s).1]).length c27).ownBlock = some k → w6.heap.size ≤ k) ∧ (xs ++ [(numS s).1]).length = (i + 1) ∧ p4.1 = (xs ++ [(numS s).1]) ++ (rdNums (p3.1 - (i + 1)) ((numS s).2)).1 ∧ p4.2 = (rdNums (p3.1 - (i + 1)) ((numS s).2)).2 from ?_) (show p3.1 - (i + 1) < p3.1 - i from ?_)
 refine ⟨by omega, hX28, by have := hg27.size; have := hc28.size; omega, ?_, by simpa using hB28, hB2e.chg hc28 (by omega), ownsRow_chg ho27 hc28 (fun k hk e => by have := hn28 k hk; omega), hn28, by simp; omega, ?_, ?_⟩
 obtain ⟨p', e', r1, r2⟩ := hR3.out
 exact ⟨⟨p', e', (r1.chg (Chg.of_grown hg27) (fun e => by have := hcell _ e; omega)).chg hc28 (by omega), r2⟩, hb.ext hX28, hR3.far⟩
 rw [hq1, show p3.1 - (i + 1) = p3.1 - i - 1 by omega]; simp
 rw [hq2, show p3.1 - (i + 1) = p3.1 - i - 1 by omega]
 omega
 -- known too
 have hstop1 : s.1 ≠ 0 ∨ p3.1 - i = 0 := by first | (left; omega) | (right; omega)
 have hq2 : p4.2 = s := by
   rw [hq2]
   rcases hstop1 with h | h
   exact rdNums_bad h
   rw [h]; rfl
 have hq1 : s.1 = 0 → p4.1 = xs := fun h0 => by
   rcases hstop1 with h | h
   exact absurd h0 h
   rw [hq1, h]; simp [rdNums]
 rw [← hq2] at hRl hq1
 refine C.exit (At.thenExit (At.thenExit (At.blockSelf (At.thenCode (C.seq (C.region (W.move rfl rfl ?_)))))))
 refine W.call Tryz.call78 rfl (Cod.Rmost_ok g9 q c b p4.2 1000 _ hRl hlen (by decide)) rfl ?_
 rintro v31 w31 ⟨rfl, hP31⟩
 rw [← q5] at hP31 ⊢
 refine W.assign rfl rfl (W.nil (At.thenCode (C.seq (C.region (W.move rfl rfl (W.move rfl rfl ?_))))))
 refine W.call Tryz.call80 rfl (Cod.Rsize_ok g9 q c b p5.2 p5.1 _ hP31.rdr hlen) rfl ?_
 rintro v32 w32 ⟨rfl, hP32'⟩
 rw [← q6] at hP32' ⊢
 have hP32 := hP31.trans hP32'
 have hX32 := hP32.old hgw hXl
 have hB32 := hBl.chg hP32.chg (by omega)
 have hB2f := hB2l.chg hP32.chg (by omega)
 have hO32 : w32.ownsRow w.heap.size 83 1 vi xs.length (xs.map u64V) := ownsRow_chg hOl hP32.chg (fun k hk e => by have := hnl k hk; omega)
 have hl32 := hP32.chg.size
 have hvil := fun k hk => (World.ownsRow.lt hO32 k hk).2
 refine W.assign rfl rfl (W.nil (At.thenCode (C.seq (C.seq (C.region (W.assign rfl rfl (W.nil (At.thenCode (C.block ?_)))))))))
 refine C.loop (X := Nat × Value × (List Let) × St) (fun x_ => [(0, .slice q b.length c), (2, .pointer (some ⟨g2, 0, none⟩)), (4, .pointer (some ⟨g9, 0, none⟩)), (5, .pointer (some ⟨g5, 0, none⟩)), (8, .int .i64 (p5.1 : Int)), (9, .int .i64 (p6.1 : Int)), (10, .int .i64 (x_.1 : Int))]) (fun x_ wm => x_.1 ≤ p5.1 ∧ Ext w wm ∧ w32.heap.size ≤ (World.heap wm).size ∧ Rdr wm g9 q c b x_.2.2.2 ∧ Bk wm g5 [.int .i64 (p1.1 : Int), .int .i64 (p2.1 : Int), vi, x_.2.1] ∧ Bk wm g2 [.int .i64 0, .int .i64 0, .slice none 0 0, .slice none 0 0] ∧ World.ownsRow wm w.heap.size 83 1 vi xs.length (xs.map u64V) ∧ OwE (fun k => k < w32.heap.size) wm w.heap.size 58 33 RLet x_.2.1 x_.2.2.1 ∧ (∀ k, x_.2.1.ownBlock = some k → w32.heap.size ≤ k) ∧ x_.2.2.1.length = x_.1 ∧ p7.1 = x_.2.2.1 ++ (rdLets p6.1 (p5.1 - x_.1) x_.2.2.2).1 ∧ p7.2 = (rdLets p6.1 (p5.1 - x_.1) x_.2.2.2).2) (fun x_ => p5.1 - x_.1) (0, Value.slice none 0 0, [], p6.2) (sc rfl (sc rfl (sc rfl (sc rfl (sc rfl (sc rfl (sc rfl (Sub.nil)))))))) ?start2 ?_
 case start2 =>
   show (0) ≤ p5.1 ∧ Ext w _ ∧ w32.heap.size ≤ (World.heap _).size ∧ Rdr _ g9 q c b (p6.2) ∧ Bk _ g5 [.int .i64 (p1.1 : Int), .int .i64 (p2.1 : Int), vi, (Value.slice none 0 0)] ∧ Bk _ g2 [.int .i64 0, .int .i64 0, .slice none 0 0, .slice none 0 0] ∧ World.ownsRow _ w.heap.size 83 1 vi xs.length (xs.map u64V) ∧ OwE (fun k => k < w32.heap.size) _ w.heap.size 58 33 RLet (Value.slice none 0 0) ([]) ∧ (∀ k, (Value.slice none 0 0).ownBlock = some k → w32.heap.size ≤ k) ∧ ([]).length = (0) ∧ p7.1 = ([]) ++ (rdLets p6.1 (p5.1 - (0)) (p6.2)).1 ∧ p7.2 = (rdLets p6.1 (p5.1 - (0)) (p6.2)).2
   exact ⟨by omega, hX32, Nat.le_refl _, hP32.rdr, hB32, hB2f, hO32, OwE.nil _ _ _ _ _ _, (by intro k e; cases e), rfl, by rw [q7]; rfl, by rw [q7]; rfl⟩
 rintro ⟨i, vl, ls, s⟩ wm hI_
 replace hI_ : i ≤ p5.1 ∧ Ext w wm ∧ w32.heap.size ≤ (World.heap wm).size ∧ Rdr wm g9 q c b s ∧ Bk wm g5 [.int .i64 (p1.1 : Int), .int .i64 (p2.1 : Int), vi, vl] ∧ Bk wm g2 [.int .i64 0, .int .i64 0, .slice none 0 0, .slice none 0 0] ∧ World.ownsRow wm w.heap.size 83 1 vi xs.length (xs.map u64V) ∧ OwE (fun k => k < w32.heap.size) wm w.heap.size 58 33 RLet vl ls ∧ (∀ k, vl.ownBlock = some k → w32.heap.size ≤ k) ∧ ls.length = i ∧ p7.1 = ls ++ (rdLets p6.1 (p5.1 - i) s).1 ∧ p7.2 = (rdLets p6.1 (p5.1 - i) s).2 := hI_
 obtain ⟨hi', hXm, hsm, hRm, hBm, hB2m, hOm, hEm, hnm, hlm, hm1, hm2⟩ := hI_
 refine C.weaken (l' := [(0, .slice q b.length c), (2, .pointer (some ⟨g2, 0, none⟩)), (4, .pointer (some ⟨g9, 0, none⟩)), (5, .pointer (some ⟨g5, 0, none⟩)), (8, .int .i64 (p5.1 : Int)), (9, .int .i64 (p6.1 : Int)), (10, .int .i64 (i : Int))]) (sc rfl (sc rfl (sc rfl (sc rfl (sc rfl (sc rfl (sc rfl (Sub.nil)))))))) ?_
 obtain ⟨p, e, hBr, hpl, hel, hss⟩ := hRm.out
 have hse : s.1 = e := by rw [hss]
 refine C.seq (C.seq (C.region (W.move rfl rfl (W.move rfl rfl (W.lssI rfl rfl rfl (W.move rfl rfl ?_))))))
 refine W.splitD (fun g51 => ?_) (fun g51 => ?_)
 refine W.wants rfl rfl rfl rfl (W.move rfl rfl (W.wants rfl rfl rfl rfl (W.nilCheck rfl rfl (W.wants rfl rfl rfl rfl (W.fieldB (off := 2) (size := 1) (t := 3) (Fld.of (by kernel_rfl)) rfl rfl rfl (W.wants rfl rfl rfl rfl ?_))))))
 refine W.loadB rfl Tryz.underlying3 rfl (by assumption) rfl rfl ?_
 refine W.wants rfl rfl rfl rfl (W.eqlI rfl rfl rfl (W.pickT rfl rfl rfl (W.nil (At.thenCode ?_))))
 refine C.condD rfl (fun c57 => ?_) (fun c57 => ?_)
 have hi2 : i < p5.1 := by omega
 have he0 : s.1 = 0 := by omega
 have hst := rdLets_step (k := p6.1) (n := p5.1 - i - 1) he0
 rw [show p5.1 - i - 1 + 1 = p5.1 - i by omega] at hst
 rw [hst] at hm1 hm2
 obtain ⟨t1, ht1⟩ : ∃ t, t = (keyS s).2 := ⟨_, rfl⟩
 obtain ⟨t2, ht2⟩ : ∃ t, t = (takeS p6.1 t1).2 := ⟨_, rfl⟩
 obtain ⟨ky, hky⟩ : ∃ t, t = (keyS s).1 := ⟨_, rfl⟩
 obtain ⟨bd, hbd⟩ : ∃ t, t = (takeS p6.1 t1).1 := ⟨_, rfl⟩
 rw [← ht1, ← ht2, ← hky, ← hbd] at hm1
 rw [← ht1, ← ht2] at hm2
 have hkl : ky.length = 32 := by rw [hky]; exact keyS_len s
 refine C.skip (At.thenCode (C.seq (C.block (C.seq (C.region (W.move rfl rfl ?_))))))
 refine W.call Tryz.call81 rfl (Cod.Rkey_ok g9 q c b s _ hRm hlen) rfl ?_
 rintro v61 w61 ⟨rfl, hP61⟩
 rw [← ht1] at hP61
 rw [← hky]
 have hg9l : g9 < w32.heap.size := hP32.rdr.lt
 have hg5l : g5 < w32.heap.size := hB32.lt
 have hg2l : g2 < w32.heap.size := hB2f.lt
 have hs61 := hP61.chg.size
 refine W.alloc (z := .agg Z32.toArray) Z32 (by kernel_rfl) rfl rfl ?_
 intro g11 w11 hg11 hX11' hB11
 refine W.storeA (ky.map byteV) rfl rfl hB11 (by rw [List.length_map, hkl]; rfl) (by rw [List.length_map, hkl]; kernel_rfl) (bytes_oneCell _) ?_
 intro w12 hc12 hB12
 have hX12 : Ext w61 w12 := hX11'.news hc12 fun k hk => Or.inr (by omega)
 have hC12 : Chg (fun k => k = g9) wm w12 := hP61.chg.ext hX12
 have hs12 := hC12.size
 have hX12a : Ext w w12 := hXm.news hC12 fun k hk => Or.inr (by omega)
 have hr12 := hP61.rdr.ext hX12
 have hB12m := hBm.chg hC12 (by omega)
 have hB2m' := hB2m.chg hC12 (by omega)
 have hOm' : w12.ownsRow w.heap.size 83 1 vi xs.length (xs.map u64V) := ownsRow_chg hOm hC12 (fun k hk e => by have := hnl k hk; omega)
 have hEm' : OwE (fun k => k < w32.heap.size) w12 w.heap.size 58 33 RLet vl ls := OwE.chg rLet hEm (hC12.mono fun k hk => by omega) (fun k hk hA => by have := hnm k hk; omega)
 have hl11 : w32.heap.size ≤ g11 := by omega
 refine W.nil (At.thenCode ?_)
 refine C.regionAnyB (fun k b => k = 5 ∧ b = g9) 8 (E_ (.pointer (some ⟨g5, 3, none⟩)) :: E_ (vl) :: E_ (.agg (ky.map byteV).toArray) :: E_ (.pointer (some ⟨g9, 0, none⟩)) :: E_ (.int .i64 (p6.1 : Int)) :: (fun v w => (∃ ao c', v = .slice ao bd.length c' ∧ NewB wm w ao c' bd) ∧ Rdr w g9 q c b t2) :: (fun v w => ∃ ao c', v = .agg (ky.map byteV ++ [Value.slice ao bd.length c']).toArray ∧ NewB wm w ao c' bd) :: (fun v w => ∃ ao c', LitP wm 33 (ky.map byteV ++ [Value.slice ao bd.length c']) v w ∧ NewB wm w ao c' bd) :: []) [(0, .slice q b.length c), (2, .pointer (some ⟨g2, 0, none⟩)), (4, .pointer (some ⟨g9, 0, none⟩)), (5, .pointer (some ⟨g5, 0, none⟩)), (8, .int .i64 (p5.1 : Int)), (9, .int .i64 (p6.1 : Int)), (10, .int .i64 (i : Int)), (11, .pointer (some ⟨g11, 0, none⟩))] [] (sc rfl (sc rfl (sc rfl (sc rfl (sc rfl (sc rfl (sc rfl (sc rfl (Sub.nil))))))))) (Sub.nil) (sc rfl (sc rfl (sc rfl (sc rfl (sc rfl (sc rfl (sc rfl (sc rfl (Sub.nil))))))))) (by kernel_rfl) rfl rfl rfl (sN (sN (sN (sN (sN (sM (fun _ _ _ h g => ⟨by obtain ⟨ao, c', e, h1⟩ := h.1; exact ⟨ao, c', e, NewB.ext h1 (FamPost.ext g (fun k q h1 h2 h3 => h1 h3.1))⟩, h.2.ext (FamPost.ext g (fun k q h1 h2 h3 => h1 h3.1))⟩) (sM (fun _ _ _ h g => by obtain ⟨ao, c', e, h1, h2⟩ := h; exact ⟨ao, c', e, h1.chg g (fun ad ea hn hk => by obtain ⟨_, _, _, _, hk⟩ := hk; have := h2 ad ea (by simpa using hn); have := hRm.lt; omega), h2⟩) (sM (fun _ _ _ h g => by obtain ⟨ao, c', ⟨g4, e1, e2, e3⟩, h1, h2⟩ := h; exact ⟨ao, c', ⟨g4, e1, e2.chg g (fun ad ea hn hk => by obtain ⟨_, _, _, _, hk⟩ := hk; obtain rfl := Option.some.inj ea; simp at hk; have := hRm.lt; omega), e3⟩, h1.chg g (fun ad ea hn hk => by obtain ⟨_, _, _, _, hk⟩ := hk; have := h2 ad ea (by simpa using hn); have := hRm.lt; omega), h2⟩) (trivial))))))))) ?_ ?_
 refine And.intro ?_ ?_
 intro L_ wr hX_ hs_ hf_ hd_
 exact W.s1 (hs_ 5 _ rfl) (W.fieldB (off := 3) (size := 1) (t := 37) (Fld.of (by kernel_rfl)) rfl rfl rfl (W.eF rfl))
 refine And.intro ?_ ?_
 intro L_ wr hX_ hs_ hf_ hd_
 obtain ⟨_, e0, rfl⟩ := hd_ 0 rfl
 refine W.s1 (e0 _ rfl) ?_
 have hBr' : Bk wr g5 [.int .i64 (p1.1 : Int), .int .i64 (p2.1 : Int), vi, vl] := hB12m.chg hX_ (by rintro ⟨k, _, _, _, h⟩; omega)
 refine W.loadB rfl Tryz.underlying37 rfl hBr' rfl rfl ?_
 exact W.eF rfl
 refine And.intro ?_ ?_
 intro L_ wr hX_ hs_ hf_ hd_
 refine W.s1 (hs_ 11 _ rfl) ?_
 have hBr'' : Bk wr g11 (ky.map byteV) := hB12.chg hX_ (by rintro ⟨k, _, _, _, h⟩; omega)
 refine W.loadA rfl (hBr''.cells (o := 0)) Tryz.underlying43 rfl (by rw [List.drop_zero, List.length_map, hkl]; kernel_rfl) rfl ?_
 rw [List.drop_zero]
 exact W.eF rfl
 refine And.intro ?_ ?_
 intro L_ wr hX_ hs_ hf_ hd_
 exact W.s1 (hs_ 4 _ rfl) (W.move rfl rfl (W.eF rfl))
 refine And.intro ?_ ?_
 intro L_ wr hX_ hs_ hf_ hd_
 exact W.s1 (hs_ 9 _ rfl) (W.move rfl rfl (W.eF rfl))
 refine And.intro ?_ ?_
 intro L_ wr hX_ hs_ hf_ hd_
 obtain ⟨_, e3, rfl⟩ := hd_ 3 rfl
 obtain ⟨_, e4, rfl⟩ := hd_ 4 rfl
 refine W.s2 (e3 _ rfl) (e4 _ rfl) ?_
 have hXe := FamPre.ext hX_ (fun k q h1 h2 h3 => h1 h3.1)
 have hr := hr12.ext hXe
 refine W.call Tryz.call82 rfl (Cod.Rtake_ok g9 q c b t1 p6.1 _ hr hlen (by omega)) rfl ?_
 rintro v53 w53 ⟨ao53, c53, rfl, hN53, hP53⟩
 rw [← ht2] at hP53
 rw [← hbd] at hN53 ⊢
 refine W.nil ?_
 exact At.stepF (Fam.of 5 (hP53.chg.mono fun k hk => ⟨rfl, hk⟩)) ⟨⟨ao53, c53, rfl, hN53.old (by have := Chg.size hX_; omega)⟩, hP53.rdr⟩
 refine And.intro ?_ ?_
 intro L_ wr hX_ hs_ hf_ hd_
 obtain ⟨_, e2, rfl⟩ := hd_ 2 rfl
 obtain ⟨v5, e5, r5⟩ := hd_ 5 rfl
 obtain ⟨⟨ao53, c53, rfl, hN53⟩, hR6⟩ := r5
 refine W.s2 (e2 _ rfl) (e5 _ rfl) ?_
 refine W.buildS (fs := _) [(0, 32), (32, 1)] (ky.map byteV ++ [Value.slice ao53 bd.length c53]) (Z32 ++ [Value.slice none 0 0]) Tryz.underlying58 (by kernel_rfl) (by kernel_rfl) rfl (by rw [fill_cons (us := ky.map byteV) (off := 0) rfl (by rw [List.length_map, hkl]; rfl) (by rw [List.length_map, hkl]; decide)]; rw [show KW.splice (Z32 ++ [Value.slice none 0 0]) 0 (ky.map byteV) = ky.map byteV ++ [Value.slice none 0 0] from by have := splice_mid (pre := []) (mid := Z32) (post := [Value.slice none 0 0]) (xs := ky.map byteV) (by rw [List.length_map, hkl]; rfl); simpa using this]; rw [fill_cons (us := [Value.slice ao53 bd.length c53]) (off := 32) rfl rfl (by simp; omega)]; rw [show KW.splice (ky.map byteV ++ [Value.slice none 0 0]) 32 [Value.slice ao53 bd.length c53] = ky.map byteV ++ [Value.slice ao53 bd.length c53] from by have := subL_splice hkl [Value.slice ao53 bd.length c53] [Value.slice none 0 0] 0; exact this]; rfl) rfl ?_
 refine W.nil ?_
 exact At.stepF (Fam.ofExt (Ext.refl _)) ⟨ao53, c53, rfl, hN53⟩
 refine And.intro ?_ ?_
 intro L_ wr hX_ hs_ hf_ hd_
 obtain ⟨v6, e6, r6⟩ := hd_ 6 rfl
 obtain ⟨ao54, c54, rfl, hN54⟩ := r6
 refine W.s1 (e6 _ rfl) ?_
 refine W.litS (ky.map byteV ++ [Value.slice ao54 bd.length c54]) ELet Tryz.underlying37 rfl (by simp [hkl]) (by decide) rfl ?_
 intro g55 w55 hg55 hX55 _ hs55
 refine W.nil ?_
 exact At.stepF (Fam.ofExt hX55) ⟨ao54, c54, ⟨g55, rfl, hs55, by have := Chg.size hX_; omega⟩, NewB.ext hN54 hX55⟩
 exact trivial
 intro L_ wr hX16 hs_ hv_
 obtain ⟨v5, e5, r5⟩ := hv_ 5 (by decide)
 obtain ⟨⟨ao53, c53, rfl, hN53⟩, hR6⟩ := r5
 obtain ⟨v1, e1, r1⟩ := hv_ 1 (by decide)
 obtain rfl : (vl : Value) = v1 := Eq.symm r1
 obtain ⟨v7, e7, r7⟩ := hv_ 7 (by decide)
 obtain ⟨aoL, cL, ⟨g8, rfl, hs8, hg8⟩, hN8⟩ := r7
 refine W.weaken (l' := [(67, _), (63, _), (69, _), (0, _), (2, _), (4, _), (5, _), (8, _), (9, _), (10, _), (11, _)]) (sc (e5 _ rfl) (sc (e1 _ rfl) (sc (e7 _ rfl) (sc (hs_ _ _ rfl) (sc (hs_ _ _ rfl) (sc (hs_ _ _ rfl) (sc (hs_ _ _ rfl) (sc (hs_ _ _ rfl) (sc (hs_ _ _ rfl) (sc (hs_ _ _ rfl) (sc (hs_ _ _ rfl) (Sub.nil)))))))))))) ?_
 have hC11 : Chg (fun k => k = g9) wm wr := hC12.trans (Chg.mono hX16 fun b ⟨k, h1, h2⟩ => h2)
 have hsr := hC11.size
 have hXr : Ext w wr := hXm.news hC11 fun k hk => Or.inr (by omega)
 have hEr : OwE (fun k => k < w32.heap.size) wr w.heap.size 58 33 RLet vl ls := OwE.chg rLet hEm (hC11.mono fun k hk => by have := hRl.lt; have := hP32.rdr.lt; omega) (fun k hk hA => by have := hnm k hk; omega)
 have hR56 : RLet (fun k => k < w32.heap.size ∨ vl.ownBlock = some k) wr (ky.map byteV ++ [Value.slice aoL bd.length cL]) (ky, bd) := ⟨_, rfl, hN8.byt (fun k hk => by rcases hk with h | h; omega; exact (hEm.lt k h).2), hkl⟩
 refine W.appendE (ys := [(ky, bd)]) rLet ELet Tryz.underlying37 rfl rfl hEr (Els.lit hs8 hR56 (fun hq => by rcases hq with h | h; omega; have := (hEm.lt _ h).2; omega)) (by simp; omega) (by simp; omega) (by have := hXr.size; omega) rfl ?_
 intro v56 w56 hO56 hg56 hl56
 have hcell := fun k (hk : some k = vl.ownBlock) => hnm k hk.symm
 have hg9l : g9 < w32.heap.size := hP32.rdr.lt
 have hg5l : g5 < w32.heap.size := hB32.lt
 have hg2l : g2 < w32.heap.size := hB2f.lt
 have hB56 : Bk w56 g5 [.int .i64 (p1.1 : Int), .int .i64 (p2.1 : Int), vi, vl] := (hBm.chg hC11 (by omega)).chg (Chg.of_grown hg56) (fun e => by have := hcell _ e; omega)
 have hB2g := (hB2m.chg hC11 (by omega)).chg (Chg.of_grown hg56) (fun e => by have := hcell _ e; omega)
 have hO56i : w56.ownsRow w.heap.size 83 1 vi xs.length (xs.map u64V) := ownsRow_chg (ownsRow_chg hOm hC11 (fun k hk e => by have := hnl k hk; omega)) (Chg.of_grown hg56) (fun k hk e => by have := hcell _ e; have := hvil k hk; omega)
 have hX56 : Ext w w56 := hXr.news (Chg.of_grown hg56) fun k hk => Or.inr (hEr.lt k hk.symm).1
 have hn56 : ∀ k, v56.ownBlock = some k → w32.heap.size ≤ k := by
   intro k hk
   rcases hl56 with h | ⟨k', h, hk'⟩
   rw [h] at hk; exact hnm k hk
   rw [h] at hk; obtain rfl := Option.some.inj hk; omega
 obtain ⟨a56, c56, rfl, _, _⟩ := OwE.form rLet hO56 (fun k hk hA => by have := hn56 k hk; omega)
 refine W.fieldB (off := 3) (size := 1) (t := 37) (Fld.of (by kernel_rfl)) rfl rfl rfl ?_
 refine W.store1 rfl rfl rfl hB56 (by simp) (by kernel_rfl) ?_
 intro w57 hc57 hB57
 have hX57 : Ext w w57 := hX56.news hc57 fun k hk => Or.inr (by have := hX16.size; omega)
 refine W.nil (At.blockNormal (At.thenCode (C.region (W.move rfl rfl ?_))))
 refine W.addI rfl rfl (by omega) rfl ?_
 refine W.assign rfl rfl (W.nil ?_)
 refine At.thenRound (i + 1, Value.slice a56 (ls ++ [(ky, bd)]).length c56, ls ++ [(ky, bd)], t2) (sc rfl (sc rfl (sc rfl (sc rfl (sc rfl (sc rfl (sc (look_eq rfl (iV (by omega))) (Sub.nil)))))))) (show (i + 1) ≤ p5.1 ∧ Ext w _ ∧ w32.heap.size ≤ (World.heap _).size ∧ Rdr _ g9 q c b (t2) ∧ Bk _ g5 [.int .i64 (p1.1 : Int), .int .i64 (p2.1 : Int), vi, (Value.slice a56 (ls ++ [(ky, bd)]).length c56)] ∧ Bk _ g2 [.int .i64 0, .int .i64 0, .slice none 0 0, .slice none 0 0] ∧ World.ownsRow _ w.heap.size 83 1 vi xs.length (xs.map u64V) ∧ OwE (fun k => k < w32.heap.size) _ w.heap.size 58 33 RLet (Value.slice a56 (ls ++ [(ky, bd)]).length c56) (ls ++ [(ky, bd)]) ∧ (∀ k, (Value.slice a56 (ls ++ [(ky, bd)]).length c56).ownBlock = some k → w32.heap.size ≤ k) ∧ (ls ++ [(ky, bd)]).length = (i + 1) ∧ p7.1 = (ls ++ [(ky, bd)]) ++ (rdLets p6.1 (p5.1 - (i + 1)) (t2)).1 ∧ p7.2 = (rdLets p6.1 (p5.1 - (i + 1)) (t2)).2 from ?_) (show p5.1 - (i + 1) < p5.1 - i from ?_)
 refine ⟨by omega, hX57, by have := hg56.size; have := hc57.size; omega, ?_, by simpa using hB57, hB2g.chg hc57 (by omega), ownsRow_chg hO56i hc57 (fun k hk e => by have := hnl k hk; omega), OwE.chg rLet hO56 (hc57.mono fun k hk => by omega) (fun k hk hA => by have := hn56 k hk; omega), hn56, by simp; omega, ?_, ?_⟩
 obtain ⟨p', e', r1, r2⟩ := hR6.out
 exact ⟨⟨p', e', (r1.chg (Chg.of_grown hg56) (fun e => by have := hcell _ e; omega)).chg hc57 (by omega), r2⟩, hb.ext hX57, hR6.far⟩
 rw [hm1, show p5.1 - (i + 1) = p5.1 - i - 1 by omega]; simp
 rw [hm2, show p5.1 - (i + 1) = p5.1 - i - 1 by omega]
 omega
 -- known too
 have hstop : s.1 ≠ 0 ∨ p5.1 - i = 0 := by first | (left; omega) | (right; omega)
 rw [rdLets_stop hstop] at hm1 hm2
 have hm1 : p7.1 = ls := by rw [hm1]; simp
 have hm2 : p7.2 = s := hm2
 subst hm1
 rw [← hm2] at hRm
 refine C.exit (At.thenExit (At.thenExit (At.blockSelf (At.thenCode (C.seq (C.region (W.move rfl rfl ?_)))))))
 refine W.call Tryz.call83 rfl (Cod.Rend_ok g9 q c b p7.2 _ hRm) rfl ?_
 rintro v59 w59 ⟨rfl, hC59⟩
 have hg9l : g9 < w32.heap.size := hP32.rdr.lt
 have hB59 := hBm.chg hC59 (by omega)
 have hB2h := hB2m.chg hC59 (by omega)
 have hX59 : Ext w w59 := hXm.news hC59 fun k hk => Or.inr (by omega)
 have hO59 : w59.ownsRow w.heap.size 83 1 vi xs.length (xs.map u64V) := ownsRow_chg hOm hC59 (fun k hk e => by have := hnl k hk; omega)
 have hE59 : OwE (fun k => k < w32.heap.size) w59 w.heap.size 58 33 RLet vl p7.1 := OwE.chg rLet hEm (hC59.mono fun k hk => by omega) (fun k hk hA => by have := hnm k hk; omega)
 rw [← hRE]
 obtain ⟨aL, cL', rfl, hElL, _⟩ := OwE.form rLet hE59 (fun k hk hA => by have := hnm k hk; omega)
 obtain ⟨aI, cI, rfl, hUI, hbI⟩ := ownsRow_form hO59
 refine W.assign rfl rfl (W.nil (At.thenCode (C.seq (C.seq (C.region (W.move rfl rfl (W.neqI rfl rfl rfl (W.nil (At.thenCode ?_)))))))))
 refine C.condD rfl (fun c75 => ?_) (fun c75 => ?_)
 refine C.seq (C.region ?_)
 refine W.buildS (fs := _) [(0, 1), (1, 1), (2, 1), (3, 1)] [.int .i64 0, .int .i64 0, .slice none 0 0, .slice none 0 0] [.int .i64 0, .int .i64 0, .slice none 0 0, .slice none 0 0] Tryz.underlying39 (by kernel_rfl) (by kernel_rfl) rfl rfl rfl ?_
 refine W.move rfl rfl ?_
 refine W.storeA [.int .i64 0, .int .i64 0, .slice none 0 0, .slice none 0 0] rfl rfl hB2h rfl (by kernel_rfl) (by intro u hu; simp at hu; rcases hu with rfl | rfl <;> rfl) ?_
 intro w62 hc62 hB62
 refine W.assign rfl rfl (W.nil (At.thenCode (C.ret (At.thenRet ?_))))
 -- RESULT IN A CELL
 first
 | (have h0 : batRE b = 0 := by omega
    have hR : batR b = batS b := by unfold batR; rw [if_pos h0]
    have h40 : p4.2.1 = 0 := by
      have h72 : p7.2 = (0, []) := overS_ok (by rw [← hRE]; exact h0)
      obtain ⟨g7, _, _⟩ := rdLets_back (k := p6.1) p5.1 p6.2 (by rw [← q7, h72])
      obtain ⟨z1, _, _⟩ := sizeS_ok (n := p5.1) (s := p5.2) (by rw [← q6, g7])
      obtain ⟨y1, _, _⟩ := intS_ok z1
      have g6 := numS_back y1
      obtain ⟨x1, _, _⟩ := intS_ok (m := 1000) (s := p4.2) (by rw [← q5, g6])
      have g5 := numS_back x1
      rw [g5]
    obtain rfl : p4.1 = xs := hq1 h40
    refine At.retCT Tryz.results43 rfl rfl (hB64.cells (o := 0)) Tryz.underlying39 rfl (by kernel_rfl) ?_
    rw [hR, hS]
    refine ⟨_, _, by rw [h0]; rfl, ⟨aI, cI, rfl, ?_, fun ad ea hne hlt => by have := hbI ad ea; omega, hI4⟩, ?_, hX59.news hc64 fun k hk => Or.inr (by omega)⟩
    exact hUI.chg hc64 (fun ad ea hne hk => by subst ea; have := hnl ad.block rfl; omega)
    refine (rSl 33 rLet).new ((rSl 33 rLet).chg (A := fun k => k < w32.heap.size) ⟨aL, cL', rfl, hElL⟩ (hc64.mono fun k hk => by omega)) fun k hk _ => by have := hX32.size; omega)
 | (have h0 : ¬ batRE b = 0 := by omega
    have hR : batR b = zeroBat := by unfold batR; rw [if_neg h0]
    refine At.retCT Tryz.results43 rfl rfl (hB62.cells (o := 0)) Tryz.underlying39 rfl (by kernel_rfl) ?_
    rw [hR]
    exact ⟨.slice none 0 0, .slice none 0 0, rfl, ⟨none, 0, rfl, Sl.none _ _, (fun ad e => by cases e), fun x hx => by cases hx⟩, ⟨none, 0, rfl, Els.nil _ _ _ _⟩, hX59.news hc62 fun k hk => Or.inr (by omega)⟩)
 refine C.skip (At.thenCode (C.seq (C.region ?_)))
 refine W.loadA rfl (hB59.cells (o := 0)) Tryz.underlying39 rfl (by kernel_rfl) rfl ?_
 refine W.storeA [.int .i64 (p1.1 : Int), .int .i64 (p2.1 : Int), .slice aI xs.length cI, .slice aL p7.1.length cL'] rfl rfl hB2h rfl (by kernel_rfl) (by intro u hu; simp at hu; rcases hu with rfl | rfl | rfl | rfl <;> rfl) ?_
 intro w64 hc64 hB64
 refine W.assign rfl rfl (W.nil (At.thenCode (C.ret ?_)))
 -- RESULT IN A CELL
 first
 | (have h0 : batRE b = 0 := by omega
    have hR : batR b = batS b := by unfold batR; rw [if_pos h0]
    have h40 : p4.2.1 = 0 := by
      have h72 : p7.2 = (0, []) := overS_ok (by rw [← hRE]; exact h0)
      obtain ⟨g7, _, _⟩ := rdLets_back (k := p6.1) p5.1 p6.2 (by rw [← q7, h72])
      obtain ⟨z1, _, _⟩ := sizeS_ok (n := p5.1) (s := p5.2) (by rw [← q6, g7])
      obtain ⟨y1, _, _⟩ := intS_ok z1
      have g6 := numS_back y1
      obtain ⟨x1, _, _⟩ := intS_ok (m := 1000) (s := p4.2) (by rw [← q5, g6])
      have g5 := numS_back x1
      rw [g5]
    obtain rfl : p4.1 = xs := hq1 h40
    refine At.retCT Tryz.results43 rfl rfl (hB64.cells (o := 0)) Tryz.underlying39 rfl (by kernel_rfl) ?_
    rw [hR, hS]
    refine ⟨_, _, by rw [h0]; rfl, ⟨aI, cI, rfl, ?_, fun ad ea hne hlt => by have := hbI ad ea; omega, hI4⟩, ?_, hX59.news hc64 fun k hk => Or.inr (by omega)⟩
    exact hUI.chg hc64 (fun ad ea hne hk => by subst ea; have := hnl ad.block rfl; omega)
    refine (rSl 33 rLet).new ((rSl 33 rLet).chg (A := fun k => k < w32.heap.size) ⟨aL, cL', rfl, hElL⟩ (hc64.mono fun k hk => by omega)) fun k hk _ => by have := hX32.size; omega)
 | (have h0 : ¬ batRE b = 0 := by omega
    have hR : batR b = zeroBat := by unfold batR; rw [if_neg h0]
    refine At.retCT Tryz.results43 rfl rfl (hB62.cells (o := 0)) Tryz.underlying39 rfl (by kernel_rfl) ?_
    rw [hR]
    exact ⟨.slice none 0 0, .slice none 0 0, rfl, ⟨none, 0, rfl, Sl.none _ _, (fun ad e => by cases e), fun x hx => by cases hx⟩, ⟨none, 0, rfl, Els.nil _ _ _ _⟩, hX59.news hc62 fun k hk => Or.inr (by omega)⟩)
 refine W.skips rfl rfl rfl rfl rfl rfl (W.skips rfl rfl rfl rfl rfl rfl (W.skips rfl rfl rfl rfl rfl rfl (W.skips rfl rfl rfl rfl rfl rfl (W.skips rfl rfl rfl rfl rfl rfl (W.pickF rfl rfl rfl (W.nil (At.thenCode ?_)))))))
 refine C.condF rfl ?_
 -- known too
 have hstop : s.1 ≠ 0 ∨ p5.1 - i = 0 := by first | (left; omega) | (right; omega)
 rw [rdLets_stop hstop] at hm1 hm2
 have hm1 : p7.1 = ls := by rw [hm1]; simp
 have hm2 : p7.2 = s := hm2
 subst hm1
 rw [← hm2] at hRm
 refine C.exit (At.thenExit (At.thenExit (At.blockSelf (At.thenCode (C.seq (C.region (W.move rfl rfl ?_)))))))
 refine W.call Tryz.call83 rfl (Cod.Rend_ok g9 q c b p7.2 _ hRm) rfl ?_
 rintro v59 w59 ⟨rfl, hC59⟩
 have hg9l : g9 < w32.heap.size := hP32.rdr.lt
 have hB59 := hBm.chg hC59 (by omega)
 have hB2h := hB2m.chg hC59 (by omega)
 have hX59 : Ext w w59 := hXm.news hC59 fun k hk => Or.inr (by omega)
 have hO59 : w59.ownsRow w.heap.size 83 1 vi xs.length (xs.map u64V) := ownsRow_chg hOm hC59 (fun k hk e => by have := hnl k hk; omega)
 have hE59 : OwE (fun k => k < w32.heap.size) w59 w.heap.size 58 33 RLet vl p7.1 := OwE.chg rLet hEm (hC59.mono fun k hk => by omega) (fun k hk hA => by have := hnm k hk; omega)
 rw [← hRE]
 obtain ⟨aL, cL', rfl, hElL, _⟩ := OwE.form rLet hE59 (fun k hk hA => by have := hnm k hk; omega)
 obtain ⟨aI, cI, rfl, hUI, hbI⟩ := ownsRow_form hO59
 refine W.assign rfl rfl (W.nil (At.thenCode (C.seq (C.seq (C.region (W.move rfl rfl (W.neqI rfl rfl rfl (W.nil (At.thenCode ?_)))))))))
 refine C.condD rfl (fun c75 => ?_) (fun c75 => ?_)
 refine C.seq (C.region ?_)
 refine W.buildS (fs := _) [(0, 1), (1, 1), (2, 1), (3, 1)] [.int .i64 0, .int .i64 0, .slice none 0 0, .slice none 0 0] [.int .i64 0, .int .i64 0, .slice none 0 0, .slice none 0 0] Tryz.underlying39 (by kernel_rfl) (by kernel_rfl) rfl rfl rfl ?_
 refine W.move rfl rfl ?_
 refine W.storeA [.int .i64 0, .int .i64 0, .slice none 0 0, .slice none 0 0] rfl rfl hB2h rfl (by kernel_rfl) (by intro u hu; simp at hu; rcases hu with rfl | rfl <;> rfl) ?_
 intro w62 hc62 hB62
 refine W.assign rfl rfl (W.nil (At.thenCode (C.ret (At.thenRet ?_))))
 -- RESULT IN A CELL
 first
 | (have h0 : batRE b = 0 := by omega
    have hR : batR b = batS b := by unfold batR; rw [if_pos h0]
    have h40 : p4.2.1 = 0 := by
      have h72 : p7.2 = (0, []) := overS_ok (by rw [← hRE]; exact h0)
      obtain ⟨g7, _, _⟩ := rdLets_back (k := p6.1) p5.1 p6.2 (by rw [← q7, h72])
      obtain ⟨z1, _, _⟩ := sizeS_ok (n := p5.1) (s := p5.2) (by rw [← q6, g7])
      obtain ⟨y1, _, _⟩ := intS_ok z1
      have g6 := numS_back y1
      obtain ⟨x1, _, _⟩ := intS_ok (m := 1000) (s := p4.2) (by rw [← q5, g6])
      have g5 := numS_back x1
      rw [g5]
    obtain rfl : p4.1 = xs := hq1 h40
    refine At.retCT Tryz.results43 rfl rfl (hB64.cells (o := 0)) Tryz.underlying39 rfl (by kernel_rfl) ?_
    rw [hR, hS]
    refine ⟨_, _, by rw [h0]; rfl, ⟨aI, cI, rfl, ?_, fun ad ea hne hlt => by have := hbI ad ea; omega, hI4⟩, ?_, hX59.news hc64 fun k hk => Or.inr (by omega)⟩
    exact hUI.chg hc64 (fun ad ea hne hk => by subst ea; have := hnl ad.block rfl; omega)
    refine (rSl 33 rLet).new ((rSl 33 rLet).chg (A := fun k => k < w32.heap.size) ⟨aL, cL', rfl, hElL⟩ (hc64.mono fun k hk => by omega)) fun k hk _ => by have := hX32.size; omega)
 | (have h0 : ¬ batRE b = 0 := by omega
    have hR : batR b = zeroBat := by unfold batR; rw [if_neg h0]
    refine At.retCT Tryz.results43 rfl rfl (hB62.cells (o := 0)) Tryz.underlying39 rfl (by kernel_rfl) ?_
    rw [hR]
    exact ⟨.slice none 0 0, .slice none 0 0, rfl, ⟨none, 0, rfl, Sl.none _ _, (fun ad e => by cases e), fun x hx => by cases hx⟩, ⟨none, 0, rfl, Els.nil _ _ _ _⟩, hX59.news hc62 fun k hk => Or.inr (by omega)⟩)
 refine C.skip (At.thenCode (C.seq (C.region ?_)))
 refine W.loadA rfl (hB59.cells (o := 0)) Tryz.underlying39 rfl (by kernel_rfl) rfl ?_
 refine W.storeA [.int .i64 (p1.1 : Int), .int .i64 (p2.1 : Int), .slice aI xs.length cI, .slice aL p7.1.length cL'] rfl rfl hB2h rfl (by kernel_rfl) (by intro u hu; simp at hu; rcases hu with rfl | rfl | rfl | rfl <;> rfl) ?_
 intro w64 hc64 hB64
 refine W.assign rfl rfl (W.nil (At.thenCode (C.ret ?_)))
 -- RESULT IN A CELL
 first
 | (have h0 : batRE b = 0 := by omega
    have hR : batR b = batS b := by unfold batR; rw [if_pos h0]
    have h40 : p4.2.1 = 0 := by
      have h72 : p7.2 = (0, []) := overS_ok (by rw [← hRE]; exact h0)
      obtain ⟨g7, _, _⟩ := rdLets_back (k := p6.1) p5.1 p6.2 (by rw [← q7, h72])
      obtain ⟨z1, _, _⟩ := sizeS_ok (n := p5.1) (s := p5.2) (by rw [← q6, g7])
      obtain ⟨y1, _, _⟩ := intS_ok z1
      have g6 := numS_back y1
      obtain ⟨x1, _, _⟩ := intS_ok (m := 1000) (s := p4.2) (by rw [← q5, g6])
      have g5 := numS_back x1
      rw [g5]
    obtain rfl : p4.1 = xs := hq1 h40
    refine At.retCT Tryz.results43 rfl rfl (hB64.cells (o := 0)) Tryz.underlying39 rfl (by kernel_rfl) ?_
    rw [hR, hS]
    refine ⟨_, _, by rw [h0]; rfl, ⟨aI, cI, rfl, ?_, fun ad ea hne hlt => by have := hbI ad ea; omega, hI4⟩, ?_, hX59.news hc64 fun k hk => Or.inr (by omega)⟩
    exact hUI.chg hc64 (fun ad ea hne hk => by subst ea; have := hnl ad.block rfl; omega)
    refine (rSl 33 rLet).new ((rSl 33 rLet).chg (A := fun k => k < w32.heap.size) ⟨aL, cL', rfl, hElL⟩ (hc64.mono fun k hk => by omega)) fun k hk _ => by have := hX32.size; omega)
 | (have h0 : ¬ batRE b = 0 := by omega
    have hR : batR b = zeroBat := by unfold batR; rw [if_neg h0]
    refine At.retCT Tryz.results43 rfl rfl (hB62.cells (o := 0)) Tryz.underlying39 rfl (by kernel_rfl) ?_
    rw [hR]
    exact ⟨.slice none 0 0, .slice none 0 0, rfl, ⟨none, 0, rfl, Sl.none _ _, (fun ad e => by cases e), fun x hx => by cases hx⟩, ⟨none, 0, rfl, Els.nil _ _ _ _⟩, hX59.news hc62 fun k hk => Or.inr (by omega)⟩)
 refine W.skips rfl rfl rfl rfl rfl rfl (W.skips rfl rfl rfl rfl rfl rfl (W.skips rfl rfl rfl rfl rfl rfl (W.skips rfl rfl rfl rfl rfl rfl (W.skips rfl rfl rfl rfl rfl rfl (W.pickF rfl rfl rfl (W.nil (At.thenCode ?_)))))))
 refine C.condF rfl ?_
 -- known too
 have hstop1 : s.1 ≠ 0 ∨ p3.1 - i = 0 := by first | (left; omega) | (right; omega)
 have hq2 : p4.2 = s := by
   rw [hq2]
   rcases hstop1 with h | h
   exact rdNums_bad h
   rw [h]; rfl
 have hq1 : s.1 = 0 → p4.1 = xs := fun h0 => by
   rcases hstop1 with h | h
   exact absurd h0 h
   rw [hq1, h]; simp [rdNums]
 rw [← hq2] at hRl hq1
 refine C.exit (At.thenExit (At.thenExit (At.blockSelf (At.thenCode (C.seq (C.region (W.move rfl rfl ?_)))))))
 refine W.call Tryz.call78 rfl (Cod.Rmost_ok g9 q c b p4.2 1000 _ hRl hlen (by decide)) rfl ?_
 rintro v31 w31 ⟨rfl, hP31⟩
 rw [← q5] at hP31 ⊢
 refine W.assign rfl rfl (W.nil (At.thenCode (C.seq (C.region (W.move rfl rfl (W.move rfl rfl ?_))))))
 refine W.call Tryz.call80 rfl (Cod.Rsize_ok g9 q c b p5.2 p5.1 _ hP31.rdr hlen) rfl ?_
 rintro v32 w32 ⟨rfl, hP32'⟩
 rw [← q6] at hP32' ⊢
 have hP32 := hP31.trans hP32'
 have hX32 := hP32.old hgw hXl
 have hB32 := hBl.chg hP32.chg (by omega)
 have hB2f := hB2l.chg hP32.chg (by omega)
 have hO32 : w32.ownsRow w.heap.size 83 1 vi xs.length (xs.map u64V) := ownsRow_chg hOl hP32.chg (fun k hk e => by have := hnl k hk; omega)
 have hl32 := hP32.chg.size
 have hvil := fun k hk => (World.ownsRow.lt hO32 k hk).2
 refine W.assign rfl rfl (W.nil (At.thenCode (C.seq (C.seq (C.region (W.assign rfl rfl (W.nil (At.thenCode (C.block ?_)))))))))
 refine C.loop (X := Nat × Value × (List Let) × St) (fun x_ => [(0, .slice q b.length c), (2, .pointer (some ⟨g2, 0, none⟩)), (4, .pointer (some ⟨g9, 0, none⟩)), (5, .pointer (some ⟨g5, 0, none⟩)), (8, .int .i64 (p5.1 : Int)), (9, .int .i64 (p6.1 : Int)), (10, .int .i64 (x_.1 : Int))]) (fun x_ wm => x_.1 ≤ p5.1 ∧ Ext w wm ∧ w32.heap.size ≤ (World.heap wm).size ∧ Rdr wm g9 q c b x_.2.2.2 ∧ Bk wm g5 [.int .i64 (p1.1 : Int), .int .i64 (p2.1 : Int), vi, x_.2.1] ∧ Bk wm g2 [.int .i64 0, .int .i64 0, .slice none 0 0, .slice none 0 0] ∧ World.ownsRow wm w.heap.size 83 1 vi xs.length (xs.map u64V) ∧ OwE (fun k => k < w32.heap.size) wm w.heap.size 58 33 RLet x_.2.1 x_.2.2.1 ∧ (∀ k, x_.2.1.ownBlock = some k → w32.heap.size ≤ k) ∧ x_.2.2.1.length = x_.1 ∧ p7.1 = x_.2.2.1 ++ (rdLets p6.1 (p5.1 - x_.1) x_.2.2.2).1 ∧ p7.2 = (rdLets p6.1 (p5.1 - x_.1) x_.2.2.2).2) (fun x_ => p5.1 - x_.1) (0, Value.slice none 0 0, [], p6.2) (sc rfl (sc rfl (sc rfl (sc rfl (sc rfl (sc rfl (sc rfl (Sub.nil)))))))) ?start3 ?_
 case start3 =>
   show (0) ≤ p5.1 ∧ Ext w _ ∧ w32.heap.size ≤ (World.heap _).size ∧ Rdr _ g9 q c b (p6.2) ∧ Bk _ g5 [.int .i64 (p1.1 : Int), .int .i64 (p2.1 : Int), vi, (Value.slice none 0 0)] ∧ Bk _ g2 [.int .i64 0, .int .i64 0, .slice none 0 0, .slice none 0 0] ∧ World.ownsRow _ w.heap.size 83 1 vi xs.length (xs.map u64V) ∧ OwE (fun k => k < w32.heap.size) _ w.heap.size 58 33 RLet (Value.slice none 0 0) ([]) ∧ (∀ k, (Value.slice none 0 0).ownBlock = some k → w32.heap.size ≤ k) ∧ ([]).length = (0) ∧ p7.1 = ([]) ++ (rdLets p6.1 (p5.1 - (0)) (p6.2)).1 ∧ p7.2 = (rdLets p6.1 (p5.1 - (0)) (p6.2)).2
   exact ⟨by omega, hX32, Nat.le_refl _, hP32.rdr, hB32, hB2f, hO32, OwE.nil _ _ _ _ _ _, (by intro k e; cases e), rfl, by rw [q7]; rfl, by rw [q7]; rfl⟩
 rintro ⟨i, vl, ls, s⟩ wm hI_
 replace hI_ : i ≤ p5.1 ∧ Ext w wm ∧ w32.heap.size ≤ (World.heap wm).size ∧ Rdr wm g9 q c b s ∧ Bk wm g5 [.int .i64 (p1.1 : Int), .int .i64 (p2.1 : Int), vi, vl] ∧ Bk wm g2 [.int .i64 0, .int .i64 0, .slice none 0 0, .slice none 0 0] ∧ World.ownsRow wm w.heap.size 83 1 vi xs.length (xs.map u64V) ∧ OwE (fun k => k < w32.heap.size) wm w.heap.size 58 33 RLet vl ls ∧ (∀ k, vl.ownBlock = some k → w32.heap.size ≤ k) ∧ ls.length = i ∧ p7.1 = ls ++ (rdLets p6.1 (p5.1 - i) s).1 ∧ p7.2 = (rdLets p6.1 (p5.1 - i) s).2 := hI_
 obtain ⟨hi', hXm, hsm, hRm, hBm, hB2m, hOm, hEm, hnm, hlm, hm1, hm2⟩ := hI_
 refine C.weaken (l' := [(0, .slice q b.length c), (2, .pointer (some ⟨g2, 0, none⟩)), (4, .pointer (some ⟨g9, 0, none⟩)), (5, .pointer (some ⟨g5, 0, none⟩)), (8, .int .i64 (p5.1 : Int)), (9, .int .i64 (p6.1 : Int)), (10, .int .i64 (i : Int))]) (sc rfl (sc rfl (sc rfl (sc rfl (sc rfl (sc rfl (sc rfl (Sub.nil)))))))) ?_
 obtain ⟨p, e, hBr, hpl, hel, hss⟩ := hRm.out
 have hse : s.1 = e := by rw [hss]
 refine C.seq (C.seq (C.region (W.move rfl rfl (W.move rfl rfl (W.lssI rfl rfl rfl (W.move rfl rfl ?_))))))
 refine W.splitD (fun g51 => ?_) (fun g51 => ?_)
 refine W.wants rfl rfl rfl rfl (W.move rfl rfl (W.wants rfl rfl rfl rfl (W.nilCheck rfl rfl (W.wants rfl rfl rfl rfl (W.fieldB (off := 2) (size := 1) (t := 3) (Fld.of (by kernel_rfl)) rfl rfl rfl (W.wants rfl rfl rfl rfl ?_))))))
 refine W.loadB rfl Tryz.underlying3 rfl (by assumption) rfl rfl ?_
 refine W.wants rfl rfl rfl rfl (W.eqlI rfl rfl rfl (W.pickT rfl rfl rfl (W.nil (At.thenCode ?_))))
 refine C.condD rfl (fun c57 => ?_) (fun c57 => ?_)
 have hi2 : i < p5.1 := by omega
 have he0 : s.1 = 0 := by omega
 have hst := rdLets_step (k := p6.1) (n := p5.1 - i - 1) he0
 rw [show p5.1 - i - 1 + 1 = p5.1 - i by omega] at hst
 rw [hst] at hm1 hm2
 obtain ⟨t1, ht1⟩ : ∃ t, t = (keyS s).2 := ⟨_, rfl⟩
 obtain ⟨t2, ht2⟩ : ∃ t, t = (takeS p6.1 t1).2 := ⟨_, rfl⟩
 obtain ⟨ky, hky⟩ : ∃ t, t = (keyS s).1 := ⟨_, rfl⟩
 obtain ⟨bd, hbd⟩ : ∃ t, t = (takeS p6.1 t1).1 := ⟨_, rfl⟩
 rw [← ht1, ← ht2, ← hky, ← hbd] at hm1
 rw [← ht1, ← ht2] at hm2
 have hkl : ky.length = 32 := by rw [hky]; exact keyS_len s
 refine C.skip (At.thenCode (C.seq (C.block (C.seq (C.region (W.move rfl rfl ?_))))))
 refine W.call Tryz.call81 rfl (Cod.Rkey_ok g9 q c b s _ hRm hlen) rfl ?_
 rintro v61 w61 ⟨rfl, hP61⟩
 rw [← ht1] at hP61
 rw [← hky]
 have hg9l : g9 < w32.heap.size := hP32.rdr.lt
 have hg5l : g5 < w32.heap.size := hB32.lt
 have hg2l : g2 < w32.heap.size := hB2f.lt
 have hs61 := hP61.chg.size
 refine W.alloc (z := .agg Z32.toArray) Z32 (by kernel_rfl) rfl rfl ?_
 intro g11 w11 hg11 hX11' hB11
 refine W.storeA (ky.map byteV) rfl rfl hB11 (by rw [List.length_map, hkl]; rfl) (by rw [List.length_map, hkl]; kernel_rfl) (bytes_oneCell _) ?_
 intro w12 hc12 hB12
 have hX12 : Ext w61 w12 := hX11'.news hc12 fun k hk => Or.inr (by omega)
 have hC12 : Chg (fun k => k = g9) wm w12 := hP61.chg.ext hX12
 have hs12 := hC12.size
 have hX12a : Ext w w12 := hXm.news hC12 fun k hk => Or.inr (by omega)
 have hr12 := hP61.rdr.ext hX12
 have hB12m := hBm.chg hC12 (by omega)
 have hB2m' := hB2m.chg hC12 (by omega)
 have hOm' : w12.ownsRow w.heap.size 83 1 vi xs.length (xs.map u64V) := ownsRow_chg hOm hC12 (fun k hk e => by have := hnl k hk; omega)
 have hEm' : OwE (fun k => k < w32.heap.size) w12 w.heap.size 58 33 RLet vl ls := OwE.chg rLet hEm (hC12.mono fun k hk => by omega) (fun k hk hA => by have := hnm k hk; omega)
 have hl11 : w32.heap.size ≤ g11 := by omega
 refine W.nil (At.thenCode ?_)
 refine C.regionAnyB (fun k b => k = 5 ∧ b = g9) 8 (E_ (.pointer (some ⟨g5, 3, none⟩)) :: E_ (vl) :: E_ (.agg (ky.map byteV).toArray) :: E_ (.pointer (some ⟨g9, 0, none⟩)) :: E_ (.int .i64 (p6.1 : Int)) :: (fun v w => (∃ ao c', v = .slice ao bd.length c' ∧ NewB wm w ao c' bd) ∧ Rdr w g9 q c b t2) :: (fun v w => ∃ ao c', v = .agg (ky.map byteV ++ [Value.slice ao bd.length c']).toArray ∧ NewB wm w ao c' bd) :: (fun v w => ∃ ao c', LitP wm 33 (ky.map byteV ++ [Value.slice ao bd.length c']) v w ∧ NewB wm w ao c' bd) :: []) [(0, .slice q b.length c), (2, .pointer (some ⟨g2, 0, none⟩)), (4, .pointer (some ⟨g9, 0, none⟩)), (5, .pointer (some ⟨g5, 0, none⟩)), (8, .int .i64 (p5.1 : Int)), (9, .int .i64 (p6.1 : Int)), (10, .int .i64 (i : Int)), (11, .pointer (some ⟨g11, 0, none⟩))] [] (sc rfl (sc rfl (sc rfl (sc rfl (sc rfl (sc rfl (sc rfl (sc rfl (Sub.nil))))))))) (Sub.nil) (sc rfl (sc rfl (sc rfl (sc rfl (sc rfl (sc rfl (sc rfl (sc rfl (Sub.nil))))))))) (by kernel_rfl) rfl rfl rfl (sN (sN (sN (sN (sN (sM (fun _ _ _ h g => ⟨by obtain ⟨ao, c', e, h1⟩ := h.1; exact ⟨ao, c', e, NewB.ext h1 (FamPost.ext g (fun k q h1 h2 h3 => h1 h3.1))⟩, h.2.ext (FamPost.ext g (fun k q h1 h2 h3 => h1 h3.1))⟩) (sM (fun _ _ _ h g => by obtain ⟨ao, c', e, h1, h2⟩ := h; exact ⟨ao, c', e, h1.chg g (fun ad ea hn hk => by obtain ⟨_, _, _, _, hk⟩ := hk; have := h2 ad ea (by simpa using hn); have := hRm.lt; omega), h2⟩) (sM (fun _ _ _ h g => by obtain ⟨ao, c', ⟨g4, e1, e2, e3⟩, h1, h2⟩ := h; exact ⟨ao, c', ⟨g4, e1, e2.chg g (fun ad ea hn hk => by obtain ⟨_, _, _, _, hk⟩ := hk; obtain rfl := Option.some.inj ea; simp at hk; have := hRm.lt; omega), e3⟩, h1.chg g (fun ad ea hn hk => by obtain ⟨_, _, _, _, hk⟩ := hk; have := h2 ad ea (by simpa using hn); have := hRm.lt; omega), h2⟩) (trivial))))))))) ?_ ?_
 refine And.intro ?_ ?_
 intro L_ wr hX_ hs_ hf_ hd_
 exact W.s1 (hs_ 5 _ rfl) (W.fieldB (off := 3) (size := 1) (t := 37) (Fld.of (by kernel_rfl)) rfl rfl rfl (W.eF rfl))
 refine And.intro ?_ ?_
 intro L_ wr hX_ hs_ hf_ hd_
 obtain ⟨_, e0, rfl⟩ := hd_ 0 rfl
 refine W.s1 (e0 _ rfl) ?_
 have hBr' : Bk wr g5 [.int .i64 (p1.1 : Int), .int .i64 (p2.1 : Int), vi, vl] := hB12m.chg hX_ (by rintro ⟨k, _, _, _, h⟩; omega)
 refine W.loadB rfl Tryz.underlying37 rfl hBr' rfl rfl ?_
 exact W.eF rfl
 refine And.intro ?_ ?_
 intro L_ wr hX_ hs_ hf_ hd_
 refine W.s1 (hs_ 11 _ rfl) ?_
 have hBr'' : Bk wr g11 (ky.map byteV) := hB12.chg hX_ (by rintro ⟨k, _, _, _, h⟩; omega)
 refine W.loadA rfl (hBr''.cells (o := 0)) Tryz.underlying43 rfl (by rw [List.drop_zero, List.length_map, hkl]; kernel_rfl) rfl ?_
 rw [List.drop_zero]
 exact W.eF rfl
 refine And.intro ?_ ?_
 intro L_ wr hX_ hs_ hf_ hd_
 exact W.s1 (hs_ 4 _ rfl) (W.move rfl rfl (W.eF rfl))
 refine And.intro ?_ ?_
 intro L_ wr hX_ hs_ hf_ hd_
 exact W.s1 (hs_ 9 _ rfl) (W.move rfl rfl (W.eF rfl))
 refine And.intro ?_ ?_
 intro L_ wr hX_ hs_ hf_ hd_
 obtain ⟨_, e3, rfl⟩ := hd_ 3 rfl
 obtain ⟨_, e4, rfl⟩ := hd_ 4 rfl
 refine W.s2 (e3 _ rfl) (e4 _ rfl) ?_
 have hXe := FamPre.ext hX_ (fun k q h1 h2 h3 => h1 h3.1)
 have hr := hr12.ext hXe
 refine W.call Tryz.call82 rfl (Cod.Rtake_ok g9 q c b t1 p6.1 _ hr hlen (by omega)) rfl ?_
 rintro v53 w53 ⟨ao53, c53, rfl, hN53, hP53⟩
 rw [← ht2] at hP53
 rw [← hbd] at hN53 ⊢
 refine W.nil ?_
 exact At.stepF (Fam.of 5 (hP53.chg.mono fun k hk => ⟨rfl, hk⟩)) ⟨⟨ao53, c53, rfl, hN53.old (by have := Chg.size hX_; omega)⟩, hP53.rdr⟩
 refine And.intro ?_ ?_
 intro L_ wr hX_ hs_ hf_ hd_
 obtain ⟨_, e2, rfl⟩ := hd_ 2 rfl
 obtain ⟨v5, e5, r5⟩ := hd_ 5 rfl
 obtain ⟨⟨ao53, c53, rfl, hN53⟩, hR6⟩ := r5
 refine W.s2 (e2 _ rfl) (e5 _ rfl) ?_
 refine W.buildS (fs := _) [(0, 32), (32, 1)] (ky.map byteV ++ [Value.slice ao53 bd.length c53]) (Z32 ++ [Value.slice none 0 0]) Tryz.underlying58 (by kernel_rfl) (by kernel_rfl) rfl (by rw [fill_cons (us := ky.map byteV) (off := 0) rfl (by rw [List.length_map, hkl]; rfl) (by rw [List.length_map, hkl]; decide)]; rw [show KW.splice (Z32 ++ [Value.slice none 0 0]) 0 (ky.map byteV) = ky.map byteV ++ [Value.slice none 0 0] from by have := splice_mid (pre := []) (mid := Z32) (post := [Value.slice none 0 0]) (xs := ky.map byteV) (by rw [List.length_map, hkl]; rfl); simpa using this]; rw [fill_cons (us := [Value.slice ao53 bd.length c53]) (off := 32) rfl rfl (by simp; omega)]; rw [show KW.splice (ky.map byteV ++ [Value.slice none 0 0]) 32 [Value.slice ao53 bd.length c53] = ky.map byteV ++ [Value.slice ao53 bd.length c53] from by have := subL_splice hkl [Value.slice ao53 bd.length c53] [Value.slice none 0 0] 0; exact this]; rfl) rfl ?_
 refine W.nil ?_
 exact At.stepF (Fam.ofExt (Ext.refl _)) ⟨ao53, c53, rfl, hN53⟩
 refine And.intro ?_ ?_
 intro L_ wr hX_ hs_ hf_ hd_
 obtain ⟨v6, e6, r6⟩ := hd_ 6 rfl
 obtain ⟨ao54, c54, rfl, hN54⟩ := r6
 refine W.s1 (e6 _ rfl) ?_
 refine W.litS (ky.map byteV ++ [Value.slice ao54 bd.length c54]) ELet Tryz.underlying37 rfl (by simp [hkl]) (by decide) rfl ?_
 intro g55 w55 hg55 hX55 _ hs55
 refine W.nil ?_
 exact At.stepF (Fam.ofExt hX55) ⟨ao54, c54, ⟨g55, rfl, hs55, by have := Chg.size hX_; omega⟩, NewB.ext hN54 hX55⟩
 exact trivial
 intro L_ wr hX16 hs_ hv_
 obtain ⟨v5, e5, r5⟩ := hv_ 5 (by decide)
 obtain ⟨⟨ao53, c53, rfl, hN53⟩, hR6⟩ := r5
 obtain ⟨v1, e1, r1⟩ := hv_ 1 (by decide)
 obtain rfl : (vl : Value) = v1 := Eq.symm r1
 obtain ⟨v7, e7, r7⟩ := hv_ 7 (by decide)
 obtain ⟨aoL, cL, ⟨g8, rfl, hs8, hg8⟩, hN8⟩ := r7
 refine W.weaken (l' := [(67, _), (63, _), (69, _), (0, _), (2, _), (4, _), (5, _), (8, _), (9, _), (10, _), (11, _)]) (sc (e5 _ rfl) (sc (e1 _ rfl) (sc (e7 _ rfl) (sc (hs_ _ _ rfl) (sc (hs_ _ _ rfl) (sc (hs_ _ _ rfl) (sc (hs_ _ _ rfl) (sc (hs_ _ _ rfl) (sc (hs_ _ _ rfl) (sc (hs_ _ _ rfl) (sc (hs_ _ _ rfl) (Sub.nil)))))))))))) ?_
 have hC11 : Chg (fun k => k = g9) wm wr := hC12.trans (Chg.mono hX16 fun b ⟨k, h1, h2⟩ => h2)
 have hsr := hC11.size
 have hXr : Ext w wr := hXm.news hC11 fun k hk => Or.inr (by omega)
 have hEr : OwE (fun k => k < w32.heap.size) wr w.heap.size 58 33 RLet vl ls := OwE.chg rLet hEm (hC11.mono fun k hk => by have := hRl.lt; have := hP32.rdr.lt; omega) (fun k hk hA => by have := hnm k hk; omega)
 have hR56 : RLet (fun k => k < w32.heap.size ∨ vl.ownBlock = some k) wr (ky.map byteV ++ [Value.slice aoL bd.length cL]) (ky, bd) := ⟨_, rfl, hN8.byt (fun k hk => by rcases hk with h | h; omega; exact (hEm.lt k h).2), hkl⟩
 refine W.appendE (ys := [(ky, bd)]) rLet ELet Tryz.underlying37 rfl rfl hEr (Els.lit hs8 hR56 (fun hq => by rcases hq with h | h; omega; have := (hEm.lt _ h).2; omega)) (by simp; omega) (by simp; omega) (by have := hXr.size; omega) rfl ?_
 intro v56 w56 hO56 hg56 hl56
 have hcell := fun k (hk : some k = vl.ownBlock) => hnm k hk.symm
 have hg9l : g9 < w32.heap.size := hP32.rdr.lt
 have hg5l : g5 < w32.heap.size := hB32.lt
 have hg2l : g2 < w32.heap.size := hB2f.lt
 have hB56 : Bk w56 g5 [.int .i64 (p1.1 : Int), .int .i64 (p2.1 : Int), vi, vl] := (hBm.chg hC11 (by omega)).chg (Chg.of_grown hg56) (fun e => by have := hcell _ e; omega)
 have hB2g := (hB2m.chg hC11 (by omega)).chg (Chg.of_grown hg56) (fun e => by have := hcell _ e; omega)
 have hO56i : w56.ownsRow w.heap.size 83 1 vi xs.length (xs.map u64V) := ownsRow_chg (ownsRow_chg hOm hC11 (fun k hk e => by have := hnl k hk; omega)) (Chg.of_grown hg56) (fun k hk e => by have := hcell _ e; have := hvil k hk; omega)
 have hX56 : Ext w w56 := hXr.news (Chg.of_grown hg56) fun k hk => Or.inr (hEr.lt k hk.symm).1
 have hn56 : ∀ k, v56.ownBlock = some k → w32.heap.size ≤ k := by
   intro k hk
   rcases hl56 with h | ⟨k', h, hk'⟩
   rw [h] at hk; exact hnm k hk
   rw [h] at hk; obtain rfl := Option.some.inj hk; omega
 obtain ⟨a56, c56, rfl, _, _⟩ := OwE.form rLet hO56 (fun k hk hA => by have := hn56 k hk; omega)
 refine W.fieldB (off := 3) (size := 1) (t := 37) (Fld.of (by kernel_rfl)) rfl rfl rfl ?_
 refine W.store1 rfl rfl rfl hB56 (by simp) (by kernel_rfl) ?_
 intro w57 hc57 hB57
 have hX57 : Ext w w57 := hX56.news hc57 fun k hk => Or.inr (by have := hX16.size; omega)
 refine W.nil (At.blockNormal (At.thenCode (C.region (W.move rfl rfl ?_))))
 refine W.addI rfl rfl (by omega) rfl ?_
 refine W.assign rfl rfl (W.nil ?_)
 refine At.thenRound (i + 1, Value.slice a56 (ls ++ [(ky, bd)]).length c56, ls ++ [(ky, bd)], t2) (sc rfl (sc rfl (sc rfl (sc rfl (sc rfl (sc rfl (sc (look_eq rfl (iV (by omega))) (Sub.nil)))))))) (show (i + 1) ≤ p5.1 ∧ Ext w _ ∧ w32.heap.size ≤ (World.heap _).size ∧ Rdr _ g9 q c b (t2) ∧ Bk _ g5 [.int .i64 (p1.1 : Int), .int .i64 (p2.1 : Int), vi, (Value.slice a56 (ls ++ [(ky, bd)]).length c56)] ∧ Bk _ g2 [.int .i64 0, .int .i64 0, .slice none 0 0, .slice none 0 0] ∧ World.ownsRow _ w.heap.size 83 1 vi xs.length (xs.map u64V) ∧ OwE (fun k => k < w32.heap.size) _ w.heap.size 58 33 RLet (Value.slice a56 (ls ++ [(ky, bd)]).length c56) (ls ++ [(ky, bd)]) ∧ (∀ k, (Value.slice a56 (ls ++ [(ky, bd)]).length c56).ownBlock = some k → w32.heap.size ≤ k) ∧ (ls ++ [(ky, bd)]).length = (i + 1) ∧ p7.1 = (ls ++ [(ky, bd)]) ++ (rdLets p6.1 (p5.1 - (i + 1)) (t2)).1 ∧ p7.2 = (rdLets p6.1 (p5.1 - (i + 1)) (t2)).2 from ?_) (show p5.1 - (i + 1) < p5.1 - i from ?_)
 refine ⟨by omega, hX57, by have := hg56.size; have := hc57.size; omega, ?_, by simpa using hB57, hB2g.chg hc57 (by omega), ownsRow_chg hO56i hc57 (fun k hk e => by have := hnl k hk; omega), OwE.chg rLet hO56 (hc57.mono fun k hk => by omega) (fun k hk hA => by have := hn56 k hk; omega), hn56, by simp; omega, ?_, ?_⟩
 obtain ⟨p', e', r1, r2⟩ := hR6.out
 exact ⟨⟨p', e', (r1.chg (Chg.of_grown hg56) (fun e => by have := hcell _ e; omega)).chg hc57 (by omega), r2⟩, hb.ext hX57, hR6.far⟩
 rw [hm1, show p5.1 - (i + 1) = p5.1 - i - 1 by omega]; simp
 rw [hm2, show p5.1 - (i + 1) = p5.1 - i - 1 by omega]
 omega
 -- known too
 have hstop : s.1 ≠ 0 ∨ p5.1 - i = 0 := by first | (left; omega) | (right; omega)
 rw [rdLets_stop hstop] at hm1 hm2
 have hm1 : p7.1 = ls := by rw [hm1]; simp
 have hm2 : p7.2 = s := hm2
 subst hm1
 rw [← hm2] at hRm
 refine C.exit (At.thenExit (At.thenExit (At.blockSelf (At.thenCode (C.seq (C.region (W.move rfl rfl ?_)))))))
 refine W.call Tryz.call83 rfl (Cod.Rend_ok g9 q c b p7.2 _ hRm) rfl ?_
 rintro v59 w59 ⟨rfl, hC59⟩
 have hg9l : g9 < w32.heap.size := hP32.rdr.lt
 have hB59 := hBm.chg hC59 (by omega)
 have hB2h := hB2m.chg hC59 (by omega)
 have hX59 : Ext w w59 := hXm.news hC59 fun k hk => Or.inr (by omega)
 have hO59 : w59.ownsRow w.heap.size 83 1 vi xs.length (xs.map u64V) := ownsRow_chg hOm hC59 (fun k hk e => by have := hnl k hk; omega)
 have hE59 : OwE (fun k => k < w32.heap.size) w59 w.heap.size 58 33 RLet vl p7.1 := OwE.chg rLet hEm (hC59.mono fun k hk => by omega) (fun k hk hA => by have := hnm k hk; omega)
 rw [← hRE]
 obtain ⟨aL, cL', rfl, hElL, _⟩ := OwE.form rLet hE59 (fun k hk hA => by have := hnm k hk; omega)
 obtain ⟨aI, cI, rfl, hUI, hbI⟩ := ownsRow_form hO59
 refine W.assign rfl rfl (W.nil (At.thenCode (C.seq (C.seq (C.region (W.move rfl rfl (W.neqI rfl rfl rfl (W.nil (At.thenCode ?_)))))))))
 refine C.condD rfl (fun c75 => ?_) (fun c75 => ?_)
 refine C.seq (C.region ?_)
 refine W.buildS (fs := _) [(0, 1), (1, 1), (2, 1), (3, 1)] [.int .i64 0, .int .i64 0, .slice none 0 0, .slice none 0 0] [.int .i64 0, .int .i64 0, .slice none 0 0, .slice none 0 0] Tryz.underlying39 (by kernel_rfl) (by kernel_rfl) rfl rfl rfl ?_
 refine W.move rfl rfl ?_
 refine W.storeA [.int .i64 0, .int .i64 0, .slice none 0 0, .slice none 0 0] rfl rfl hB2h rfl (by kernel_rfl) (by intro u hu; simp at hu; rcases hu with rfl | rfl <;> rfl) ?_
 intro w62 hc62 hB62
 refine W.assign rfl rfl (W.nil (At.thenCode (C.ret (At.thenRet ?_))))
 -- RESULT IN A CELL
 first
 | (have h0 : batRE b = 0 := by omega
    have hR : batR b = batS b := by unfold batR; rw [if_pos h0]
    have h40 : p4.2.1 = 0 := by
      have h72 : p7.2 = (0, []) := overS_ok (by rw [← hRE]; exact h0)
      obtain ⟨g7, _, _⟩ := rdLets_back (k := p6.1) p5.1 p6.2 (by rw [← q7, h72])
      obtain ⟨z1, _, _⟩ := sizeS_ok (n := p5.1) (s := p5.2) (by rw [← q6, g7])
      obtain ⟨y1, _, _⟩ := intS_ok z1
      have g6 := numS_back y1
      obtain ⟨x1, _, _⟩ := intS_ok (m := 1000) (s := p4.2) (by rw [← q5, g6])
      have g5 := numS_back x1
      rw [g5]
    obtain rfl : p4.1 = xs := hq1 h40
    refine At.retCT Tryz.results43 rfl rfl (hB64.cells (o := 0)) Tryz.underlying39 rfl (by kernel_rfl) ?_
    rw [hR, hS]
    refine ⟨_, _, by rw [h0]; rfl, ⟨aI, cI, rfl, ?_, fun ad ea hne hlt => by have := hbI ad ea; omega, hI4⟩, ?_, hX59.news hc64 fun k hk => Or.inr (by omega)⟩
    exact hUI.chg hc64 (fun ad ea hne hk => by subst ea; have := hnl ad.block rfl; omega)
    refine (rSl 33 rLet).new ((rSl 33 rLet).chg (A := fun k => k < w32.heap.size) ⟨aL, cL', rfl, hElL⟩ (hc64.mono fun k hk => by omega)) fun k hk _ => by have := hX32.size; omega)
 | (have h0 : ¬ batRE b = 0 := by omega
    have hR : batR b = zeroBat := by unfold batR; rw [if_neg h0]
    refine At.retCT Tryz.results43 rfl rfl (hB62.cells (o := 0)) Tryz.underlying39 rfl (by kernel_rfl) ?_
    rw [hR]
    exact ⟨.slice none 0 0, .slice none 0 0, rfl, ⟨none, 0, rfl, Sl.none _ _, (fun ad e => by cases e), fun x hx => by cases hx⟩, ⟨none, 0, rfl, Els.nil _ _ _ _⟩, hX59.news hc62 fun k hk => Or.inr (by omega)⟩)
 refine C.skip (At.thenCode (C.seq (C.region ?_)))
 refine W.loadA rfl (hB59.cells (o := 0)) Tryz.underlying39 rfl (by kernel_rfl) rfl ?_
 refine W.storeA [.int .i64 (p1.1 : Int), .int .i64 (p2.1 : Int), .slice aI xs.length cI, .slice aL p7.1.length cL'] rfl rfl hB2h rfl (by kernel_rfl) (by intro u hu; simp at hu; rcases hu with rfl | rfl | rfl | rfl <;> rfl) ?_
 intro w64 hc64 hB64
 refine W.assign rfl rfl (W.nil (At.thenCode (C.ret ?_)))
 -- RESULT IN A CELL
 first
 | (have h0 : batRE b = 0 := by omega
    have hR : batR b = batS b := by unfold batR; rw [if_pos h0]
    have h40 : p4.2.1 = 0 := by
      have h72 : p7.2 = (0, []) := overS_ok (by rw [← hRE]; exact h0)
      obtain ⟨g7, _, _⟩ := rdLets_back (k := p6.1) p5.1 p6.2 (by rw [← q7, h72])
      obtain ⟨z1, _, _⟩ := sizeS_ok (n := p5.1) (s := p5.2) (by rw [← q6, g7])
      obtain ⟨y1, _, _⟩ := intS_ok z1
      have g6 := numS_back y1
      obtain ⟨x1, _, _⟩ := intS_ok (m := 1000) (s := p4.2) (by rw [← q5, g6])
      have g5 := numS_back x1
      rw [g5]
    obtain rfl : p4.1 = xs := hq1 h40
    refine At.retCT Tryz.results43 rfl rfl (hB64.cells (o := 0)) Tryz.underlying39 rfl (by kernel_rfl) ?_
    rw [hR, hS]
    refine ⟨_, _, by rw [h0]; rfl, ⟨aI, cI, rfl, ?_, fun ad ea hne hlt => by have := hbI ad ea; omega, hI4⟩, ?_, hX59.news hc64 fun k hk => Or.inr (by omega)⟩
    exact hUI.chg hc64 (fun ad ea hne hk => by subst ea; have := hnl ad.block rfl; omega)
    refine (rSl 33 rLet).new ((rSl 33 rLet).chg (A := fun k => k < w32.heap.size) ⟨aL, cL', rfl, hElL⟩ (hc64.mono fun k hk => by omega)) fun k hk _ => by have := hX32.size; omega)
 | (have h0 : ¬ batRE b = 0 := by omega
    have hR : batR b = zeroBat := by unfold batR; rw [if_neg h0]
    refine At.retCT Tryz.results43 rfl rfl (hB62.cells (o := 0)) Tryz.underlying39 rfl (by kernel_rfl) ?_
    rw [hR]
    exact ⟨.slice none 0 0, .slice none 0 0, rfl, ⟨none, 0, rfl, Sl.none _ _, (fun ad e => by cases e), fun x hx => by cases hx⟩, ⟨none, 0, rfl, Els.nil _ _ _ _⟩, hX59.news hc62 fun k hk => Or.inr (by omega)⟩)
 refine W.skips rfl rfl rfl rfl rfl rfl (W.skips rfl rfl rfl rfl rfl rfl (W.skips rfl rfl rfl rfl rfl rfl (W.skips rfl rfl rfl rfl rfl rfl (W.skips rfl rfl rfl rfl rfl rfl (W.pickF rfl rfl rfl (W.nil (At.thenCode ?_)))))))
 refine C.condF rfl ?_
 -- known too
 have hstop : s.1 ≠ 0 ∨ p5.1 - i = 0 := by first | (left; omega) | (right; omega)
 rw [rdLets_stop hstop] at hm1 hm2
 have hm1 : p7.1 = ls := by rw [hm1]; simp
 have hm2 : p7.2 = s := hm2
 subst hm1
 rw [← hm2] at hRm
 refine C.exit (At.thenExit (At.thenExit (At.blockSelf (At.thenCode (C.seq (C.region (W.move rfl rfl ?_)))))))
 refine W.call Tryz.call83 rfl (Cod.Rend_ok g9 q c b p7.2 _ hRm) rfl ?_
 rintro v59 w59 ⟨rfl, hC59⟩
 have hg9l : g9 < w32.heap.size := hP32.rdr.lt
 have hB59 := hBm.chg hC59 (by omega)
 have hB2h := hB2m.chg hC59 (by omega)
 have hX59 : Ext w w59 := hXm.news hC59 fun k hk => Or.inr (by omega)
 have hO59 : w59.ownsRow w.heap.size 83 1 vi xs.length (xs.map u64V) := ownsRow_chg hOm hC59 (fun k hk e => by have := hnl k hk; omega)
 have hE59 : OwE (fun k => k < w32.heap.size) w59 w.heap.size 58 33 RLet vl p7.1 := OwE.chg rLet hEm (hC59.mono fun k hk => by omega) (fun k hk hA => by have := hnm k hk; omega)
 rw [← hRE]
 obtain ⟨aL, cL', rfl, hElL, _⟩ := OwE.form rLet hE59 (fun k hk hA => by have := hnm k hk; omega)
 obtain ⟨aI, cI, rfl, hUI, hbI⟩ := ownsRow_form hO59
 refine W.assign rfl rfl (W.nil (At.thenCode (C.seq (C.seq (C.region (W.move rfl rfl (W.neqI rfl rfl rfl (W.nil (At.thenCode ?_)))))))))
 refine C.condD rfl (fun c75 => ?_) (fun c75 => ?_)
 refine C.seq (C.region ?_)
 refine W.buildS (fs := _) [(0, 1), (1, 1), (2, 1), (3, 1)] [.int .i64 0, .int .i64 0, .slice none 0 0, .slice none 0 0] [.int .i64 0, .int .i64 0, .slice none 0 0, .slice none 0 0] Tryz.underlying39 (by kernel_rfl) (by kernel_rfl) rfl rfl rfl ?_
 refine W.move rfl rfl ?_
 refine W.storeA [.int .i64 0, .int .i64 0, .slice none 0 0, .slice none 0 0] rfl rfl hB2h rfl (by kernel_rfl) (by intro u hu; simp at hu; rcases hu with rfl | rfl <;> rfl) ?_
 intro w62 hc62 hB62
 refine W.assign rfl rfl (W.nil (At.thenCode (C.ret (At.thenRet ?_))))
 -- RESULT IN A CELL
 first
 | (have h0 : batRE b = 0 := by omega
    have hR : batR b = batS b := by unfold batR; rw [if_pos h0]
    have h40 : p4.2.1 = 0 := by
      have h72 : p7.2 = (0, []) := overS_ok (by rw [← hRE]; exact h0)
      obtain ⟨g7, _, _⟩ := rdLets_back (k := p6.1) p5.1 p6.2 (by rw [← q7, h72])
      obtain ⟨z1, _, _⟩ := sizeS_ok (n := p5.1) (s := p5.2) (by rw [← q6, g7])
      obtain ⟨y1, _, _⟩ := intS_ok z1
      have g6 := numS_back y1
      obtain ⟨x1, _, _⟩ := intS_ok (m := 1000) (s := p4.2) (by rw [← q5, g6])
      have g5 := numS_back x1
      rw [g5]
    obtain rfl : p4.1 = xs := hq1 h40
    refine At.retCT Tryz.results43 rfl rfl (hB64.cells (o := 0)) Tryz.underlying39 rfl (by kernel_rfl) ?_
    rw [hR, hS]
    refine ⟨_, _, by rw [h0]; rfl, ⟨aI, cI, rfl, ?_, fun ad ea hne hlt => by have := hbI ad ea; omega, hI4⟩, ?_, hX59.news hc64 fun k hk => Or.inr (by omega)⟩
    exact hUI.chg hc64 (fun ad ea hne hk => by subst ea; have := hnl ad.block rfl; omega)
    refine (rSl 33 rLet).new ((rSl 33 rLet).chg (A := fun k => k < w32.heap.size) ⟨aL, cL', rfl, hElL⟩ (hc64.mono fun k hk => by omega)) fun k hk _ => by have := hX32.size; omega)
 | (have h0 : ¬ batRE b = 0 := by omega
    have hR : batR b = zeroBat := by unfold batR; rw [if_neg h0]
    refine At.retCT Tryz.results43 rfl rfl (hB62.cells (o := 0)) Tryz.underlying39 rfl (by kernel_rfl) ?_
    rw [hR]
    exact ⟨.slice none 0 0, .slice none 0 0, rfl, ⟨none, 0, rfl, Sl.none _ _, (fun ad e => by cases e), fun x hx => by cases hx⟩, ⟨none, 0, rfl, Els.nil _ _ _ _⟩, hX59.news hc62 fun k hk => Or.inr (by omega)⟩)
 refine C.skip (At.thenCode (C.seq (C.region ?_)))
 refine W.loadA rfl (hB59.cells (o := 0)) Tryz.underlying39 rfl (by kernel_rfl) rfl ?_
 refine W.storeA [.int .i64 (p1.1 : Int), .int .i64 (p2.1 : Int), .slice aI xs.length cI, .slice aL p7.1.length cL'] rfl rfl hB2h rfl (by kernel_rfl) (by intro u hu; simp at hu; rcases hu with rfl | rfl | rfl | rfl <;> rfl) ?_
 intro w64 hc64 hB64
 refine W.assign rfl rfl (W.nil (At.thenCode (C.ret ?_)))
 -- RESULT IN A CELL
 first
 | (have h0 : batRE b = 0 := by omega
    have hR : batR b = batS b := by unfold batR; rw [if_pos h0]
    have h40 : p4.2.1 = 0 := by
      have h72 : p7.2 = (0, []) := overS_ok (by rw [← hRE]; exact h0)
      obtain ⟨g7, _, _⟩ := rdLets_back (k := p6.1) p5.1 p6.2 (by rw [← q7, h72])
      obtain ⟨z1, _, _⟩ := sizeS_ok (n := p5.1) (s := p5.2) (by rw [← q6, g7])
      obtain ⟨y1, _, _⟩ := intS_ok z1
      have g6 := numS_back y1
      obtain ⟨x1, _, _⟩ := intS_ok (m := 1000) (s := p4.2) (by rw [← q5, g6])
      have g5 := numS_back x1
      rw [g5]
    obtain rfl : p4.1 = xs := hq1 h40
    refine At.retCT Tryz.results43 rfl rfl (hB64.cells (o := 0)) Tryz.underlying39 rfl (by kernel_rfl) ?_
    rw [hR, hS]
    refine ⟨_, _, by rw [h0]; rfl, ⟨aI, cI, rfl, ?_, fun ad ea hne hlt => by have := hbI ad ea; omega, hI4⟩, ?_, hX59.news hc64 fun k hk => Or.inr (by omega)⟩
    exact hUI.chg hc64 (fun ad ea hne hk => by subst ea; have := hnl ad.block rfl; omega)
    refine (rSl 33 rLet).new ((rSl 33 rLet).chg (A := fun k => k < w32.heap.size) ⟨aL, cL', rfl, hElL⟩ (hc64.mono fun k hk => by omega)) fun k hk _ => by have := hX32.size; omega)
 | (have h0 : ¬ batRE b = 0 := by omega
    have hR : batR b = zeroBat := by unfold batR; rw [if_neg h0]
    refine At.retCT Tryz.results43 rfl rfl (hB62.cells (o := 0)) Tryz.underlying39 rfl (by kernel_rfl) ?_
    rw [hR]
    exact ⟨.slice none 0 0, .slice none 0 0, rfl, ⟨none, 0, rfl, Sl.none _ _, (fun ad e => by cases e), fun x hx => by cases hx⟩, ⟨none, 0, rfl, Els.nil _ _ _ _⟩, hX59.news hc62 fun k hk => Or.inr (by omega)⟩)
end Go.Proofs.YthiijdbiikljpaaGreat.Cod
namespace Go.Proofs.YthiijdbiikljpaaGreat.Mbx
open Go Go.RowKit Go.Proofs.YthiijdbiikljpaaGreat.KW Go.Proofs.YthiijdbiikljpaaGreat.Words Go.Proofs.YthiijdbiikljpaaGreat.Sha Go.Proofs.YthiijdbiikljpaaGreat.RSha Go.Proofs.YthiijdbiikljpaaGreat.Grp Go.Proofs.YthiijdbiikljpaaGreat.Cod Go.Proofs.YthiijdbiikljpaaGreat.Disk
set_option linter.unusedVariables false
set_option linter.unusedSimpArgs false
set_option maxRecDepth 100000
theorem rgone_ok (F : Nat → Prop) (g dg : Nat) (s : Bag) (o : Option Nat) (r : Nat) (w : World) (hS : RSt w F g dg s o) (hr : r ≤ 1099511627776) (hsl : s.l.length ≤ 1000000000) :
   Ct Tryz.prog 47 #[.pointer (some ⟨g, 0, none⟩), .int .i64 (r : Int)] w (fun v w' => RSt w' (Grown F w w') g dg ⟨goneL s.l r, r⟩ o ∧ Chg (fun k => k = g) w w') := by
 obtain ⟨aK, cK, h1, hO, hown, hE⟩ := hS.form
 have hgl := hS.lt g hS.own
 refine Ct.enter [(0, .pointer (some ⟨g, 0, none⟩)), (1, .int .i64 (r : Int))] Tryz.func47 rfl rfl rfl rfl ?_
 refine C.seq (C.region (W.assign rfl rfl (W.nil (At.thenCode (C.seq (C.seq (C.region (W.assign rfl rfl (W.nil (At.thenCode (C.block ?_)))))))))))
 refine C.loop (X := Nat × Value) (fun x_ => [(0, .pointer (some ⟨g, 0, none⟩)), (1, .int .i64 (r : Int)), (4, x_.2), (5, .int .i64 (x_.1 : Int))]) (fun x_ w1 => x_.1 ≤ s.l.length ∧ Ext w w1 ∧ OwE (fun q_ => ¬ F q_ ∨ q_ = g) w1 w.heap.size 39 4 RBat x_.2 (goneL (s.l.take x_.1) r)) (fun x_ => s.l.length - x_.1) (0, Value.slice none 0 0) (sc rfl (sc rfl (sc rfl (sc rfl (Sub.nil))))) ?start1 ?_
 case start1 =>
   show (0) ≤ s.l.length ∧ Ext w _ ∧ OwE (fun q_ => ¬ F q_ ∨ q_ = g) _ w.heap.size 39 4 RBat (Value.slice none 0 0) (goneL (s.l.take (0)) r)
   exact ⟨by omega, Ext.refl _, OwE.nil _ _ _ _ _ _⟩
 rintro ⟨i, v⟩ w1 hI_
 replace hI_ : i ≤ s.l.length ∧ Ext w w1 ∧ OwE (fun q_ => ¬ F q_ ∨ q_ = g) w1 w.heap.size 39 4 RBat v (goneL (s.l.take i) r) := hI_
 obtain ⟨hi, hX1, hO1⟩ := hI_
 refine C.weaken (l' := [(0, .pointer (some ⟨g, 0, none⟩)), (1, .int .i64 (r : Int)), (4, v), (5, .int .i64 (i : Int))]) (sc rfl (sc rfl (sc rfl (sc rfl (Sub.nil))))) ?_
 refine C.seq (C.seq (C.region (W.move rfl rfl (W.move rfl rfl (W.nilCheck rfl rfl (W.fieldB (off := 1) (size := 1) (t := 72) (Fld.of (by kernel_rfl)) rfl rfl rfl ?_))))))
 refine W.loadB (v := .slice aK s.l.length cK) rfl Tryz.underlying72 rfl (h1.ext hX1) rfl rfl ?_
 refine W.lenS rfl Tryz.underlying72 rfl (W.lssI rfl rfl rfl (W.nil (At.thenCode ?_)))
 refine C.condD rfl (fun c12 => ?_) (fun c12 => ?_)
 have hlt : i < s.l.length := by omega
 obtain ⟨x, hx⟩ : ∃ x, x = s.l[i] := ⟨_, rfl⟩
 have htk : goneL (s.l.take (i + 1)) r = goneL (s.l.take i) r ++ goneL [x] r := by rw [List.take_succ_eq_append_getElem hlt, ← hx]; exact List.filter_append _ _
 have hlen : (goneL (s.l.take i) r).length ≤ s.l.length := Nat.le_trans (List.length_filter_le _ _) (by rw [List.length_take]; omega)
 refine C.skip (At.thenCode (C.seq (C.block (C.seq (C.region (W.move rfl rfl (W.nilCheck rfl rfl (W.fieldB (off := 1) (size := 1) (t := 72) (Fld.of (by kernel_rfl)) rfl rfl rfl ?_))))))))
 refine W.loadB (v := .slice aK s.l.length cK) rfl Tryz.underlying72 rfl (h1.ext hX1) rfl rfl ?_
 refine W.move rfl rfl ?_
 refine W.indexE EBatR Tryz.underlying72 rfl (hE.ext rBat hX1) rfl hlt rfl ?_
 intro ad20 cs20 hc20 hR20 hl20
 rw [← hx] at hR20
 obtain ⟨vi20, vl20, rfl, _⟩ := hR20
 refine W.fieldAddr (off := 0) (size := 1) (t := 3) (Fld.of (by kernel_rfl)) rfl rfl rfl ?_
 refine W.load (v := .int .i64 x.round) rfl Tryz.underlying3 rfl (hc20 0 _ rfl) rfl ?_
 refine W.move rfl rfl (W.geqI rfl rfl rfl (W.nil (At.thenCode ?_)))
 refine C.condD rfl (fun c24 => ?_) (fun c24 => ?_)
 refine C.region (W.move rfl rfl (W.move rfl rfl (W.nilCheck rfl rfl (W.fieldB (off := 1) (size := 1) (t := 72) (Fld.of (by kernel_rfl)) rfl rfl rfl ?_))))
 refine W.loadB (v := .slice aK s.l.length cK) rfl Tryz.underlying72 rfl (h1.ext hX1) rfl rfl ?_
 refine W.move rfl rfl ?_
 refine W.indexE EBatR Tryz.underlying72 rfl (hE.ext rBat hX1) rfl hlt rfl ?_
 intro ad31 cs31 hc31 hR31 hl31
 rw [← hx] at hR31
 refine W.loadA rfl hc31 Tryz.underlying39 rfl (by rw [hl31]; kernel_rfl) rfl ?_
 refine W.litS cs31 EBatR Tryz.underlying72 rfl hl31 (by decide) rfl ?_
 intro g33 w33 hg33 hX33 _ hs33
 have hlt34 := fun q hq => OwE.lt hO1 q hq
 have hsz1 := hX1.size
 have hsz33 := hX33.size
 refine Law23.W.appendE1 rBat EBatR Tryz.underlying72 rfl rfl (OwE.ext rBat hO1 hX33) hs33 (RdOk.new rBat (RdOk.ext rBat hR31 hX33) fun q hq _ => by
   rcases hq with hq | hq
   exact hq
   exact .inl fun hf => by have := hS.lt q hf; have := (hlt34 q hq).1; omega) (by omega) (by omega) (by omega) rfl ?_
 intro v34 w34 hO34 hg34 _
 have hX34 : Ext w w34 := (hX1.ext hX33).news (Chg.of_grown hg34) fun q hq => Or.inr (hlt34 q hq.symm).1
 refine W.assign rfl rfl (W.nil (At.blockNormal (At.thenCode (C.region (W.move rfl rfl ?_)))))
 refine W.addI rfl rfl (by omega) rfl ?_
 refine W.assign rfl rfl (W.nil ?_)
 refine At.thenRound (i + 1, v34) (sc rfl (sc rfl (sc rfl (sc (look_eq rfl (iV (by omega))) (Sub.nil))))) (show (i + 1) ≤ s.l.length ∧ Ext w _ ∧ OwE (fun q_ => ¬ F q_ ∨ q_ = g) _ w.heap.size 39 4 RBat (v34) (goneL (s.l.take (i + 1)) r) from ?_) (show s.l.length - (i + 1) < s.l.length - i from ?_)
 refine ⟨by omega, hX34, ?_⟩
 rw [htk, show goneL [x] r = [x] by simp [goneL, c24]]
 exact hO34
 omega
 refine C.skip (At.blockNormal (At.thenCode (C.region (W.move rfl rfl ?_))))
 refine W.addI rfl rfl (by omega) rfl ?_
 refine W.assign rfl rfl (W.nil ?_)
 refine At.thenRound (i + 1, v) (sc rfl (sc rfl (sc rfl (sc (look_eq rfl (iV (by omega))) (Sub.nil))))) (show (i + 1) ≤ s.l.length ∧ Ext w _ ∧ OwE (fun q_ => ¬ F q_ ∨ q_ = g) _ w.heap.size 39 4 RBat (v) (goneL (s.l.take (i + 1)) r) from ?_) (show s.l.length - (i + 1) < s.l.length - i from ?_)
 refine ⟨by omega, hX1, ?_⟩
 rw [htk, show goneL [x] r = [] by simp [goneL, c24], List.append_nil]
 exact hO1
 omega
 have hi' : i = s.l.length := by omega
 subst hi'
 rw [List.take_length] at hO1
 have hlt1 := fun q hq => OwE.lt hO1 q hq
 have hsz1 := hX1.size
 have hv1 : v.oneCell' = true := by obtain ⟨cs, ho, _⟩ := hO1; obtain ⟨a, c, rfl, _⟩ := ownsRow_form ho; rfl
 refine C.exit (At.thenExit (At.thenExit (At.blockSelf (At.thenCode (C.seq (C.region (W.move rfl rfl (W.move rfl rfl (W.nilCheck rfl rfl (W.fieldB (off := 1) (size := 1) (t := 72) (Fld.of (by kernel_rfl)) rfl rfl rfl ?_))))))))))
 refine W.store1 rfl rfl hv1 (h1.ext hX1) (by simp) (by kernel_rfl) ?_
 intro wa hca hBa
 refine W.nil (At.thenCode (C.region (W.move rfl rfl (W.move rfl rfl (W.nilCheck rfl rfl (W.fieldB (off := 2) (size := 1) (t := 3) (Fld.of (by kernel_rfl)) rfl rfl rfl ?_))))))
 refine W.store1 rfl rfl rfl hBa (by simp) (by kernel_rfl) ?_
 intro wb hcb hBb
 have hsa := hca.size
 have hsb := hcb.size
 refine W.nil ?_
 refine At.end0 Tryz.results47 ?_
 have hC : Chg (fun k => k = g) w wb := ((hX1.mono fun _ c => c.elim).trans hca).trans hcb
 have hne : ∀ k, v.ownBlock = some k → ¬ k = g := fun k hk => by have := (hlt1 k hk).1; omega
 obtain ⟨cs, ho, he⟩ := hO1
 refine ⟨⟨⟨v, hBb, ⟨cs, ownsRow_base (ownsRow_chg (ownsRow_chg ho hca hne) hcb hne) (Nat.zero_le _), fun i hi => ?_⟩, fun k hk => ⟨.inr ⟨(hlt1 k hk).1, by have := (hlt1 k hk).2; omega⟩, hne k hk⟩⟩, .inl hS.own, fun k hk => ?_, ⟨fun y hy => hS.ok.1 y (List.mem_filter.1 hy).1, hr, hS.ok.2.2⟩⟩, hC⟩
 have q1 := rBat.chg (he i hi) (hca.mono fun k hk => .inl (.inr hk))
 have q2 := rBat.chg q1 (hcb.mono fun k hk => .inl (.inr hk))
 refine rBat.new q2 fun k hk _ => ?_
 rcases hk with (hk | hk) | hk
 exact .inl (.inl fun hf => hk (.inl hf))
 exact .inl (.inr hk)
 exact .inr hk
 rcases hk with hk | hk
 have := hS.lt k hk; omega
 exact hk.2
theorem rmay_ok (F A : Nat → Prop) (g dg : Nat) (s : Bag) (o : Option Nat) (x : BatD) (vi vl : Value) (w : World) (hS : RSt w F g dg s o) (hb : BatM A w x vi vl) (hsl : s.l.length ≤ 1000000000) :
   Ct Tryz.prog 39 #[.pointer (some ⟨g, 0, none⟩), .agg (batC x vi vl).toArray] w (fun v w' => v = .int .i64 (mayE s x : Int) ∧ Ext w w') := by
 refine Ct.enter [(0, .pointer (some ⟨g, 0, none⟩)), (1, .agg (batC x vi vl).toArray)] Tryz.func39 rfl rfl rfl rfl ?_
 have hir : InI x.round := hb.ok.1
 have hic : InI x.chain := hb.ok.2.1
 have hpast := hS.ok.2.1
 refine C.seq (C.region ?_)
 refine W.box (batC x vi vl) rfl rfl rfl ?_
 intro g3 w3 hg3 hX3 hB3
 refine W.assign rfl rfl (W.nil (At.thenCode (C.seq (C.region ?_))))
 refine W.loadA rfl (hB3.cells (o := 0)) Tryz.underlying39 rfl (by kernel_rfl) rfl ?_
 rw [List.drop_zero]
 have hb' := (hb.ext hX3).none
 refine W.call Tryz.call41 rfl (Cod.RBatch_ok x vi vl _ hb'.inner hb'.lets hb'.ok hb'.li hb'.ll hb'.lb) rfl ?_
 rintro v9 w9 ⟨a9, c9, rfl, hN9, hX9⟩
 have hB9 := hB3.ext hX9
 have hS9 := (hS.ext hX3).ext hX9
 have hXa := hX3.ext hX9
 obtain ⟨aK, cK, h1, _, _, _⟩ := hS9.form
 refine W.move rfl rfl (W.extract rfl rfl rfl (W.extract rfl rfl rfl (W.assign rfl rfl (W.assign rfl rfl (W.nil (At.thenCode (C.seq (C.seq (C.region (W.fieldB (off := 0) (size := 1) (t := 3) (Fld.of (by kernel_rfl)) rfl rfl rfl ?_))))))))))
 refine W.loadB (v := .int .i64 x.round) rfl Tryz.underlying3 rfl hB9 rfl rfl ?_
 refine W.gtrI rfl rfl rfl (W.move rfl rfl ?_)
 refine W.splitD (fun g15 => ?_) (fun g15 => ?_)
 refine W.skips rfl rfl rfl rfl rfl rfl (W.skips rfl rfl rfl rfl rfl rfl (W.pickT rfl rfl rfl (W.nil (At.thenCode ?_))))
 refine C.condT rfl ?_
 refine C.seq (C.region (W.assign rfl rfl (W.nil (At.thenCode (C.ret (At.thenRet ?_))))))
 refine At.ret1 Tryz.results39 rfl ?_
 refine ⟨?_, hXa⟩
 have : mayE s x = 1 := by unfold mayE; rw [if_pos (.inl (by omega))]
 rw [this]; rfl
 refine W.wants rfl rfl rfl rfl (W.move rfl rfl (W.wants rfl rfl rfl rfl (W.eqlI rfl rfl rfl (W.pickF rfl rfl rfl (W.nil (At.thenCode ?_))))))
 refine C.condD rfl (fun c18 => ?_) (fun c18 => ?_)
 refine C.seq (C.region (W.assign rfl rfl (W.nil (At.thenCode (C.ret (At.thenRet ?_))))))
 refine At.ret1 Tryz.results39 rfl ?_
 refine ⟨?_, hXa⟩
 have : mayE s x = 1 := by unfold mayE; rw [if_pos (.inr (by omega))]
 rw [this]; rfl
 refine C.skip (At.thenCode (C.seq (C.seq (C.region (W.move rfl rfl (W.neqI rfl rfl rfl (W.nil (At.thenCode ?_))))))))
 refine C.condD rfl (fun c20 => ?_) (fun c20 => ?_)
 refine C.seq (C.region (W.move rfl rfl (W.assign rfl rfl (W.nil (At.thenCode (C.ret (At.thenRet ?_)))))))
 refine At.ret1 Tryz.results39 rfl ?_
 have h16 : ¬ (1099511627776 < x.round ∨ batE x = 1) := by omega
 refine ⟨?_, hXa⟩
 have : mayE s x = batE x := by unfold mayE; rw [if_neg h16, if_pos (by omega)]
 rw [this]; rfl
 refine C.skip (At.thenCode (C.seq (C.seq ?_)))
 refine C.regionAny 7 (E_ (.pointer (some ⟨g3, 0, none⟩)) :: E_ (.int .i64 x.round) :: E_ (.pointer (some ⟨g, 0, none⟩)) :: E_ (.pointer (some ⟨g, 0, none⟩)) :: E_ (.pointer (some ⟨g, 2, none⟩)) :: E_ (.int .i64 (s.past : Int)) :: E_ (.bool (decide (x.round < (s.past : Int)))) :: []) [(0, .pointer (some ⟨g, 0, none⟩)), (3, .pointer (some ⟨g3, 0, none⟩))] [] (sc rfl (sc rfl (Sub.nil))) (Sub.nil) (sc rfl (sc rfl (Sub.nil))) (by kernel_rfl) rfl rfl rfl (sN (sN (sN (sN (sN (sN (sN (trivial)))))))) ?_ ?_
 refine And.intro ?_ ?_
 intro L_ wr hX_ hs_ hf_ hd_
 exact W.s1 (hs_ 3 _ rfl) (W.fieldB (off := 0) (size := 1) (t := 3) (Fld.of (by kernel_rfl)) rfl rfl rfl (W.e0 rfl))
 refine And.intro ?_ ?_
 intro L_ wr hX_ hs_ hf_ hd_
 obtain ⟨_, e0, rfl⟩ := hd_ 0 rfl
 refine W.s1 (e0 _ rfl) ?_
 refine W.loadB (v := .int .i64 x.round) rfl Tryz.underlying3 rfl (hB9.ext hX_) rfl rfl ?_
 exact W.e0 rfl
 refine And.intro (mB rfl rfl (fun _ => rfl) rfl) ?_
 refine And.intro ?_ ?_
 intro L_ wr hX_ hs_ hf_ hd_
 obtain ⟨_, e2, rfl⟩ := hd_ 2 rfl
 exact W.s1 (e2 _ rfl) (W.nilCheck rfl rfl (W.e0 rfl))
 refine And.intro ?_ ?_
 intro L_ wr hX_ hs_ hf_ hd_
 obtain ⟨_, e3, rfl⟩ := hd_ 3 rfl
 exact W.s1 (e3 _ rfl) (W.fieldB (off := 2) (size := 1) (t := 3) (Fld.of (by kernel_rfl)) rfl rfl rfl (W.e0 rfl))
 refine And.intro ?_ ?_
 intro L_ wr hX_ hs_ hf_ hd_
 obtain ⟨_, e4, rfl⟩ := hd_ 4 rfl
 refine W.s1 (e4 _ rfl) ?_
 refine W.loadB (v := .int .i64 (s.past : Int)) rfl Tryz.underlying3 rfl (h1.ext hX_) rfl rfl ?_
 exact W.e0 rfl
 refine And.intro ?_ ?_
 intro L_ wr hX_ hs_ hf_ hd_
 obtain ⟨_, e1, rfl⟩ := hd_ 1 rfl
 obtain ⟨_, e5, rfl⟩ := hd_ 5 rfl
 exact W.s2 (e1 _ rfl) (e5 _ rfl) (W.lssI rfl rfl rfl (W.e0 rfl))
 exact trivial
 intro L_ wr hX6 hs_ hv_
 obtain ⟨_, e6, rfl⟩ := hv_ 6 (by decide)
 refine W.weaken (l' := [(28, _), (0, _), (3, _)]) (sc (e6 _ rfl) (sc (hs_ _ _ rfl) (sc (hs_ _ _ rfl) (Sub.nil)))) ?_
 refine W.nil (At.thenCode ?_)
 refine C.condD rfl (fun c28 => ?_) (fun c28 => ?_)
 refine C.seq (C.region (W.assign rfl rfl (W.nil (At.thenCode (C.ret (At.thenRet ?_))))))
 refine At.ret1 Tryz.results39 rfl ?_
 have h16 : ¬ (1099511627776 < x.round ∨ batE x = 1) := by omega
 refine ⟨?_, hXa.ext hX6⟩
 have : mayE s x = 13 := by unfold mayE; rw [if_neg h16, if_neg (by omega), if_pos (by omega)]
 rw [this]; rfl
 refine C.skip (At.thenCode (C.seq (C.seq (C.region (W.move rfl rfl (W.fieldB (off := 0) (size := 1) (t := 3) (Fld.of (by kernel_rfl)) rfl rfl rfl ?_))))))
 refine W.loadB (v := .int .i64 x.round) rfl Tryz.underlying3 rfl (hB9.ext hX6) rfl rfl ?_
 refine W.fieldB (off := 1) (size := 1) (t := 3) (Fld.of (by kernel_rfl)) rfl rfl rfl ?_
 refine W.loadB (v := .int .i64 x.chain) rfl Tryz.underlying3 rfl (hB9.ext hX6) rfl rfl ?_
 refine W.call Tryz.call51 rfl (Mbx.RHas_ok F g dg s o x.round x.chain _ (hS9.ext hX6) hsl) rfl ?_
 rintro v34 w34 ⟨rfl, rfl⟩
 refine W.nil (At.thenCode ?_)
 first | refine C.condD rfl (fun c34 => ?_) (fun c34 => ?_) | refine C.cond rfl (fun c34 => ?_) (fun c34 => ?_)
 refine C.seq (C.region (W.assign rfl rfl (W.nil (At.thenCode (C.ret (At.thenRet ?_))))))
 refine At.ret1 Tryz.results39 rfl ?_
 have h16 : ¬ (1099511627776 < x.round ∨ batE x = 1) := by omega
 refine ⟨?_, hXa.ext hX6⟩
 have : mayE s x = 11 := by unfold mayE; rw [if_neg h16, if_neg (by omega), if_neg (by omega), if_pos (by simpa using c34)]
 rw [this]; rfl
 refine C.skip (At.thenCode (C.seq (C.region (W.assign rfl rfl (W.nil (At.thenCode (C.ret ?_)))))))
 refine At.ret1 Tryz.results39 rfl ?_
 have h16 : ¬ (1099511627776 < x.round ∨ batE x = 1) := by omega
 refine ⟨?_, hXa.ext hX6⟩
 have : mayE s x = 0 := by unfold mayE; rw [if_neg h16, if_neg (by omega), if_neg (by omega), if_neg (by simpa using c34)]
 rw [this]; rfl
theorem ragain_ok (F : Nat → Prop) (g dg : Nat) (s : Bag) (o : Option Nat) (a : Option Addr) (c : Nat) (b : List UInt8) (w : World) (hS : RSt w F g dg s o) (hb : Bs w a c b) (hl : b.length ≤ 1000000) (hsl : s.l.length ≤ 1000000000) :
   Ct Tryz.prog 32 #[.pointer (some ⟨g, 0, none⟩), .slice a b.length c] w (fun v w' => v = .bool (againS s b).isSome ∧ ∃ F' : Nat → Prop, RSt w' F' g dg (againB s b) o ∧ (∀ k, F k → F' k) ∧ (∀ k, F' k → F k ∨ w.heap.size ≤ k) ∧ Chg F w w') := by
 have hpast := hS.ok.2.1
 have hself : RSt w F g dg s o → (againS s b = none) → ∀ {w1 : World}, Ext w w1 → (Value.bool false = .bool (againS s b).isSome ∧ ∃ F' : Nat → Prop, RSt w1 F' g dg (againB s b) o ∧ (∀ k, F k → F' k) ∧ (∀ k, F' k → F k ∨ w.heap.size ≤ k) ∧ Chg F w w1) := fun h hn w1 hX => by
   unfold againB
   rw [hn]
   exact ⟨rfl, F, h.ext hX, fun k hk => hk, fun k hk => .inl hk, hX.mono fun _ c => c.elim⟩
 refine Ct.enter [(0, .pointer (some ⟨g, 0, none⟩)), (1, .slice a b.length c)] Tryz.func32 rfl rfl rfl rfl ?_
 refine C.seq (C.region (W.assign rfl rfl (W.nil (At.thenCode (C.seq (C.seq (C.region (W.move rfl rfl (W.lenS rfl Tryz.underlying22 rfl (W.lssI rfl rfl rfl (W.nil ?_)))))))))))
 refine At.thenCode ?_
 refine C.condD rfl (fun c11 => ?_) (fun c11 => ?_)
 refine C.seq (C.region (W.assign rfl rfl (W.nil (At.thenCode (C.ret (At.thenRet ?_))))))
 refine At.ret1 Tryz.results32 rfl ?_
 obtain rfl : b = [] := List.eq_nil_of_length_eq_zero (by omega)
 exact hself hS rfl (Ext.refl _)
 obtain ⟨t, y, rfl⟩ : ∃ t y, b = t :: y := List.exists_cons_of_ne_nil (by rintro rfl; exact c11 (by decide))
 have hyl : (t :: y).length = y.length + 1 := rfl
 refine C.skip (At.thenCode (C.seq (C.seq (C.region (W.move rfl rfl ?_)))))
 refine W.indexS (i := 0) E8 Tryz.underlying22 rfl hb rfl ⟨by omega, by omega⟩ rfl ?_
 intro ad13 _ _ hc13
 refine W.load (v := byteV t) rfl Tryz.underlying5 rfl (by have h := hc13 0 (byteV t) rfl; rwa [add_zero'] at h) rfl ?_
 rw [byteV_eq]
 refine W.nil (At.thenCode (C.block (C.seq (C.region ?_))))
 refine W.eqlU (n := 1) rfl rfl rfl ?_
 refine W.assign rfl rfl (W.nil (At.thenCode ?_))
 refine C.condD rfl (fun c15 => ?_) (fun c15 => ?_)
 have ht : t = 1 := UInt8.toNat_inj.1 c15
 subst ht
 refine C.seq (C.region (W.move rfl rfl ?_))
 refine W.slice (lo := 1) (hi := (1 :: y).length) E8 Tryz.underlying22 rfl hb (.inr ⟨_, .i64, rfl, rfl⟩) (.inl ⟨rfl, rfl⟩) (by omega) (Nat.le_refl _) rfl ?_
 intro a19 c19 hS19 _
 have hS19' : Bs w a19 c19 y := by
   have := Bs.part (lo := 1) (hi := (1 :: y).length) (by omega) (Nat.le_refl _) hS19
   rwa [List.drop_succ_cons, List.drop_zero, hyl, Nat.add_sub_cancel, List.take_of_length_le (Nat.le_refl _)] at this
 rw [hyl, Nat.add_sub_cancel]
 refine W.call Tryz.call43 rfl (Cod.RReadBatch_ok a19 c19 y _ hS19' (by omega)) rfl ?_
 rintro v20 w20 ⟨vi, vl, rfl, hI20, hL20, hX20⟩
 have hbo := batR_ok y
 obtain ⟨hb1, hb2, hb3⟩ := batR_small y
 have hrx : batRE y = 0 → batE (batR y) = 0 := fun h => (bat_again y h).1
 obtain ⟨xb, hxb⟩ : ∃ xb, xb = batR y := ⟨_, rfl⟩
 obtain ⟨rb, hrb⟩ : ∃ rb, rb = batRE y := ⟨_, rfl⟩
 rw [← hxb] at hI20 hL20 hbo hb1 hb2 hb3 hrx
 rw [← hrb] at hrx
 rw [← hxb, ← hrb]
 have hBM : BatM (fun k => k < w.heap.size) w20 xb vi vl := ⟨hI20, hL20, hbo, by omega, by omega, fun p hp => by have := hb3 p hp; omega⟩
 have hS20 := hS.ext hX20
 have hs20 := hX20.size
 refine W.move rfl rfl (W.extract rfl rfl rfl (W.extract rfl rfl rfl ?_))
 refine W.alloc (z := .agg #[.int .i64 0, .int .i64 0, .slice none 0 0, .slice none 0 0]) [.int .i64 0, .int .i64 0, .slice none 0 0, .slice none 0 0] (by kernel_rfl) rfl rfl ?_
 intro g5 w5 hg5 hX5 hB5
 refine W.storeA (batC xb vi vl) rfl rfl hB5 rfl (by kernel_rfl) (batC_one hBM) ?_
 intro w6 hC6 hB6
 have hX6 : Ext w20 w6 := hX5.news hC6 fun k hk => Or.inr (by omega)
 have hX6w := hX20.ext hX6
 have hS6 := hS20.ext hX6
 have hBM6 := hBM.ext hX6
 refine W.assign rfl rfl (W.nil (At.thenCode (C.seq (C.seq (C.region (W.move rfl rfl (W.neqI rfl rfl rfl (W.move rfl rfl ?_))))))))
 refine W.splitD (fun g25 => ?_) (fun g25 => ?_)
 refine W.skips rfl rfl rfl rfl rfl rfl (W.skips rfl rfl rfl rfl rfl rfl (W.skips rfl rfl rfl rfl rfl rfl (W.skips rfl rfl rfl rfl rfl rfl (W.pickT rfl rfl rfl (W.nil (At.thenCode ?_))))))
 refine C.condT rfl ?_
 refine C.seq (C.region (W.assign rfl rfl (W.nil (At.thenCode (C.ret (At.thenRet (At.blockRet (At.thenRet ?_))))))))
 refine At.ret1 Tryz.results32 rfl ?_
 have hre : ¬ rb = 0 := by have := g25; omega
 have hag : againS s (1 :: y) = none := by
   rw [again_1, ← hrb, if_neg (fun h => hre h.1)]
 exact hself hS hag hX6w
 refine W.wants rfl rfl rfl rfl (W.move rfl rfl (W.wants rfl rfl rfl rfl ?_))
 refine W.loadA rfl (hB6.cells (o := 0)) Tryz.underlying39 rfl (by kernel_rfl) rfl ?_
 rw [List.drop_zero]
 refine W.wants rfl rfl rfl rfl ?_
 refine W.call Tryz.call39 rfl (Mbx.rmay_ok F _ g dg s o xb vi vl _ hS6 hBM6 hsl) rfl ?_
 rintro v28 w28 ⟨rfl, hX28⟩
 refine W.wants rfl rfl rfl rfl (W.neqI rfl rfl rfl (W.pickF rfl rfl rfl (W.nil (At.thenCode ?_))))
 refine C.condD rfl (fun c30 => ?_) (fun c30 => ?_)
 refine C.seq (C.region (W.assign rfl rfl (W.nil (At.thenCode (C.ret (At.thenRet (At.blockRet (At.thenRet ?_))))))))
 refine At.ret1 Tryz.results32 rfl ?_
 have hme : ¬ mayE s xb = 0 := by omega
 have hag : againS s (1 :: y) = none := by
   rw [again_1, ← hxb, if_neg (fun h => hme h.2)]
 exact hself hS hag (hX6w.ext hX28)
 have hre : rb = 0 := by have := g25; omega
 have hme : mayE s xb = 0 := by omega
 obtain ⟨m1, m2, m3, m4⟩ := mayE_zero hme
 have hag : againS s (1 :: y) = some (takeS s xb) := by
   rw [again_1, ← hrb, ← hxb, if_pos ⟨hre, hme⟩]
 have hS28 := hS6.ext hX28
 have hBM28 := hBM6.ext hX28
 obtain ⟨aK, cK, h1K, hOK, hownK, _⟩ := hS28.form
 obtain ⟨WW, hWW⟩ : ∃ WW, w = WW := ⟨_, rfl⟩
 have hs28 := hX28.size
 have hs6' := hX6.size
 refine C.skip (At.thenCode (C.seq ?_))
 refine C.regionAnyB (fun k b => k = 7 ∧ (Value.slice aK s.l.length cK).ownBlock = some b) 8 (E_ (.pointer (some ⟨g, 0, none⟩)) :: E_ (.pointer (some ⟨g, 0, none⟩)) :: E_ (.pointer (some ⟨g, 0, none⟩)) :: E_ (.pointer (some ⟨g, 1, none⟩)) :: E_ (.slice aK s.l.length cK) :: E_ (.agg (batC xb vi vl).toArray) :: (fun v w => LitP w28 4 (batC xb vi vl) v w) :: (fun v w => OwE (fun k => k = g ∨ (k < WW.heap.size ∧ ¬ F k)) w 0 39 4 RBat v (s.l ++ [xb]) ∧ (v.ownBlock = (Value.slice aK s.l.length cK).ownBlock ∨ ∃ q, v.ownBlock = some q ∧ w28.heap.size ≤ q)) :: []) [(0, .pointer (some ⟨g, 0, none⟩)), (5, .pointer (some ⟨g5, 0, none⟩))] [] (sc rfl (sc rfl (Sub.nil))) (Sub.nil) (sc rfl (sc rfl (Sub.nil))) (by kernel_rfl) rfl rfl rfl (sN (sN (sN (sN (sN (sN (sM (fun _ _ _ h g => by obtain ⟨g4, e1, e2, e3⟩ := h; exact ⟨g4, e1, e2.chg g (fun ad ea hn hk => by obtain ⟨_, _, _, _, hk⟩ := hk; obtain rfl := Option.some.inj ea; have := hS28.lt _ (hownK _ hk).1; simp at this; omega), e3⟩) (sM (fun _ _ _ h g => ⟨OwE.ext rBat h.1 (FamPost.ext g (fun k q h1 h2 h3 => h1 h3.1)), h.2⟩) (trivial))))))))) ?_ ?_
 refine And.intro ?_ ?_
 intro L_ wr hX_ hs_ hf_ hd_
 exact W.s1 (hs_ 0 _ rfl) (W.move rfl rfl (W.eF rfl))
 refine And.intro ?_ ?_
 intro L_ wr hX_ hs_ hf_ hd_
 exact W.s1 (hs_ 0 _ rfl) (W.move rfl rfl (W.eF rfl))
 refine And.intro ?_ ?_
 intro L_ wr hX_ hs_ hf_ hd_
 obtain ⟨_, e1, rfl⟩ := hd_ 1 rfl
 exact W.s1 (e1 _ rfl) (W.nilCheck rfl rfl (W.eF rfl))
 refine And.intro ?_ ?_
 intro L_ wr hX_ hs_ hf_ hd_
 obtain ⟨_, e2, rfl⟩ := hd_ 2 rfl
 exact W.s1 (e2 _ rfl) (W.fieldB (off := 1) (size := 1) (t := 72) (Fld.of (by kernel_rfl)) rfl rfl rfl (W.eF rfl))
 refine And.intro ?_ ?_
 intro L_ wr hX_ hs_ hf_ hd_
 obtain ⟨_, e3, rfl⟩ := hd_ 3 rfl
 refine W.s1 (e3 _ rfl) ?_
 refine W.loadB (v := .slice aK s.l.length cK) rfl Tryz.underlying72 rfl (h1K.chg hX_ (by rintro ⟨_, _, _, _, hk⟩; exact (hownK _ hk).2 rfl)) rfl rfl ?_
 exact W.eF rfl
 refine And.intro ?_ ?_
 intro L_ wr hX_ hs_ hf_ hd_
 refine W.s1 (hs_ 5 _ rfl) ?_
 refine W.loadA rfl (((hB6.ext hX28).chg hX_ (by rintro ⟨_, _, _, _, hk⟩; have := hS.lt _ (hownK _ hk).1; omega)).cells (o := 0)) Tryz.underlying39 rfl (by kernel_rfl) rfl ?_
 rw [List.drop_zero]
 exact W.eF rfl
 refine And.intro ?_ ?_
 intro L_ wr hX_ hs_ hf_ hd_
 obtain ⟨_, e5, rfl⟩ := hd_ 5 rfl
 refine W.s1 (e5 _ rfl) ?_
 refine W.litS (batC xb vi vl) EBatR Tryz.underlying72 rfl rfl (by decide) rfl ?_
 intro g37 w37 hg37 hX37 _ hs37
 refine W.nil ?_
 exact At.stepF (Fam.ofExt hX37) ⟨g37, rfl, hs37, by have := Chg.size hX_; omega⟩
 refine And.intro ?_ ?_
 intro L_ wr hX_ hs_ hf_ hd_
 obtain ⟨_, e4, rfl⟩ := hd_ 4 rfl
 obtain ⟨v6, e6, r6⟩ := hd_ 6 rfl
 obtain ⟨g6, rfl, hs6, hg6⟩ := r6
 refine W.s2 (e4 _ rfl) (e6 _ rfl) ?_
 have hXe : Ext w28 wr := FamPre.ext hX_ (fun k q h1 h2 h3 => h1 h3.1)
 have hs28 := hX28.size
 have hse := hXe.size
 have hs6' := hX6.size
 have hBM8 := hBM28.ext hXe
 have hgw := hS.lt g hS.own
 refine Law23.W.appendE1 (y0 := xb) (A := fun k => k = g ∨ (k < w.heap.size ∧ ¬ F k)) (base := 0) rBat EBatR Tryz.underlying72 rfl rfl (OwE.new rBat (OwE.ext rBat hOK hXe) fun k hk _ => .inl (hk.elim .inr fun h => .inl h.2)) hs6 ⟨vi, vl, rfl, RdOk.new rNums hBM8.inner (fun k hk _ => by
   rcases hk with (hk | hk) | hk
   omega
   exact hk.1
   exact hS.lt _ (hownK _ hk).1), RdOk.new (rSl 33 rLet) hBM8.lets (fun k hk _ => by
   rcases hk with (hk | hk) | hk
   omega
   exact hk.1
   exact hS.lt _ (hownK _ hk).1), hbo⟩ (by omega) (by omega) (Nat.zero_le _) rfl ?_
 intro v38 w38 hO38 hg38 hl38
 have hC38 : Chg (fun q => (Value.slice aK s.l.length cK).ownBlock = some q) wr w38 := (Chg.of_grown hg38).mono fun q hq => hq.symm
 refine W.nil ?_
 subst hWW; exact At.stepF (Fam.of 7 (hC38.mono fun k hk => ⟨rfl, hk⟩)) ⟨hO38, hl38.imp id fun ⟨q, h1, h2⟩ => ⟨q, h1, by have := Chg.size hX_; omega⟩⟩
 exact trivial
 intro L_ wr hX8 hs_ hv_
 obtain ⟨_, e0, rfl⟩ := hv_ 0 (by decide)
 obtain ⟨v7, e7, r7⟩ := hv_ 7 (by decide)
 refine W.weaken (l' := [(31, _), (38, _), (0, _), (5, _)]) (sc (e0 _ rfl) (sc (e7 _ rfl) (sc (hs_ _ _ rfl) (sc (hs_ _ _ rfl) (Sub.nil))))) ?_
 refine W.nilCheck rfl rfl (W.fieldB (off := 1) (size := 1) (t := 72) (Fld.of (by kernel_rfl)) rfl rfl rfl ?_)
 have hC8 : Chg (fun q => (Value.slice aK s.l.length cK).ownBlock = some q) w28 wr := Chg.mono hX8 fun b ⟨k, h1, h2⟩ => h2
 have hs8 := hC8.size
 have hBr := h1K.chg hC8 (fun hk => (hownK _ hk).2 rfl)
 subst hWW
 obtain ⟨hO7, hl7⟩ := r7
 have hlt7 := fun q hq => OwE.lt hO7 q hq
 have hv7 : v7.oneCell' = true := by obtain ⟨cs, ho, _⟩ := hO7; obtain ⟨a, c, rfl, _⟩ := ownsRow_form ho; rfl
 refine W.store1 rfl rfl hv7 hBr (by simp) (by kernel_rfl) ?_
 intro w40 hC40 hB40
 have hs40 := hC40.size
 have hne7 : ∀ k, v7.ownBlock = some k → ¬ k = g := fun k hk => by
   have hgw := hS.lt g hS.own
   rcases hl7 with h | ⟨q, h, h'⟩
   rw [h] at hk; exact (hownK k hk).2
   rw [h] at hk; obtain rfl := Option.some.inj hk
   have := hX28.size; have := hX6w.size; omega
 have hRS : RSt w40 (Grown F w w40) g dg (takeS s xb) o := by
   have hX6s := hX6w.size
   have hX28s := hX28.size
   obtain ⟨cs, ho, he⟩ := hO7
   refine ⟨⟨v7, hB40, ⟨cs, ownsRow_chg ho hC40 hne7, fun i hi => ?_⟩, fun k hk => ⟨?_, hne7 k hk⟩⟩, .inl hS.own, fun k hk => ?_, ⟨fun y hy => ?_, hS.ok.2.1, hS.ok.2.2⟩⟩
   refine rBat.new (rBat.chg (he i hi) (hC40.mono fun k hk => .inl (.inl hk))) fun k hk hkl => ?_
   rcases hk with (hk | hk) | hk
   refine .inl (.inr ⟨?_, fun hf => hk (.inl hf)⟩)
   rcases Nat.lt_or_ge k w.heap.size with h | h
   exact h
   exact absurd (.inr ⟨h, by omega⟩) hk
   exact .inl (.inl hk)
   exact .inr hk
   rcases hl7 with h | ⟨q, h, h'⟩
   rw [h] at hk; exact .inl (hownK k hk).1
   have hk2 := (hlt7 k hk).2
   rw [h] at hk; obtain rfl := Option.some.inj hk
   exact .inr ⟨by omega, by omega⟩
   rcases hk with hk | hk
   have := hS.lt k hk; omega
   exact hk.2
   rcases List.mem_append.1 hy with hy | hy
   exact hS.ok.1 y hy
   obtain rfl := List.mem_singleton.1 hy; exact ⟨hbo, m2⟩
 have hCw : Chg F w w40 := (((hX6w.ext hX28).mono fun _ c => c.elim).trans (hC8.mono fun k hk => (hownK k hk).1)).trans (hC40.mono fun k hk => by subst hk; exact hS.own)
 refine W.nil (At.thenCode (C.seq (C.region (W.assign rfl rfl (W.nil (At.thenCode (C.ret (At.blockRet (At.thenRet ?_)))))))))
 refine At.ret1 Tryz.results32 rfl ?_
 unfold againB
 rw [hag]
 exact ⟨rfl, Grown F w w40, hRS, fun k hk => .inl hk, fun k hk => hk.imp id fun h => h.1, hCw⟩
 have ht1 : t ≠ 1 := fun e => c15 (by rw [e]; rfl)
 refine C.seq (C.region ?_)
 refine W.eqlU (n := 2) rfl rfl rfl ?_
 refine W.assign rfl rfl (W.nil (At.thenCode ?_))
 refine C.condD rfl (fun c41 => ?_) (fun c41 => ?_)
 have ht : t = 2 := UInt8.toNat_inj.1 c41
 subst ht
 refine C.seq (C.region (W.move rfl rfl ?_))
 refine W.call Tryz.call62 rfl (Words.RGet64_ok a c (2 :: y) 1 _ hb (by omega) (by omega)) rfl ?_
 rintro v45 w45 ⟨rfl, rfl⟩
 refine W.move rfl rfl (W.extract rfl rfl rfl (W.extract rfl rfl rfl (W.assign rfl rfl (W.assign rfl rfl (W.nil (At.thenCode (C.seq (C.seq (C.region (W.move rfl rfl (W.neqI rfl rfl rfl ?_)))))))))))
 refine W.move rfl rfl ?_
 refine W.splitD (fun g50 => ?_) (fun g50 => ?_)
 refine W.skips rfl rfl rfl rfl rfl rfl (W.skips rfl rfl rfl rfl rfl rfl (W.skips rfl rfl rfl rfl rfl rfl (W.pickT rfl rfl rfl (W.move rfl rfl (W.skips rfl rfl rfl rfl rfl rfl (W.skips rfl rfl rfl rfl rfl rfl (W.pickT rfl rfl rfl (W.nil (At.thenCode ?_)))))))))
 refine C.condT rfl ?_
 refine C.seq (C.region (W.assign rfl rfl (W.nil (At.thenCode (C.ret (At.thenRet (At.blockRet (At.thenRet ?_))))))))
 refine At.ret1 Tryz.results32 rfl ?_
 have hag : againS s (2 :: y) = none := by
   rw [again_2, if_neg]
   rintro ⟨h8, _⟩
   obtain ⟨hg1, hg2⟩ := getV_tail (t := 2) h8
   have := g50
   omega
 exact hself hS hag (Ext.refl _)
 refine W.wants rfl rfl rfl rfl (W.move rfl rfl (W.wants rfl rfl rfl rfl (W.lenS rfl Tryz.underlying22 rfl (W.wants rfl rfl rfl rfl (W.neqI rfl rfl rfl (W.pickF rfl rfl rfl (W.move rfl rfl ?_)))))))
 refine W.splitD (fun g55 => ?_) (fun g55 => ?_)
 refine W.skips rfl rfl rfl rfl rfl rfl (W.skips rfl rfl rfl rfl rfl rfl (W.pickT rfl rfl rfl (W.nil (At.thenCode ?_))))
 refine C.condT rfl ?_
 refine C.seq (C.region (W.assign rfl rfl (W.nil (At.thenCode (C.ret (At.thenRet (At.blockRet (At.thenRet ?_))))))))
 refine At.ret1 Tryz.results32 rfl ?_
 have hag : againS s (2 :: y) = none := by
   rw [again_2, if_neg]
   rintro ⟨h8, _⟩
   have := g55
   omega
 exact hself hS hag (Ext.refl _)
 refine W.wants rfl rfl rfl rfl (W.move rfl rfl (W.wants rfl rfl rfl rfl ?_))
 refine W.gtrU (n := 1099511627776) rfl rfl rfl ?_
 refine W.pickF rfl rfl rfl (W.nil (At.thenCode ?_))
 refine C.condD rfl (fun c58 => ?_) (fun c58 => ?_)
 refine C.seq (C.region (W.assign rfl rfl (W.nil (At.thenCode (C.ret (At.thenRet (At.blockRet (At.thenRet ?_))))))))
 refine At.ret1 Tryz.results32 rfl ?_
 have hag : againS s (2 :: y) = none := by
   rw [again_2, if_neg]
   rintro ⟨h8, h9⟩
   obtain ⟨hg1, hg2⟩ := getV_tail (t := 2) h8
   rw [hg2] at c58
   omega
 exact hself hS hag (Ext.refl _)
 have h8 : y.length = 8 := by omega
 obtain ⟨hg1, hg2⟩ := getV_tail (t := 2) h8
 have hn40 : beNat y ≤ 1099511627776 := by rw [← hg2]; omega
 have hag : againS s (2 :: y) = some (goneS s (beNat y)) := by
   rw [again_2, if_pos ⟨h8, hn40⟩]
 obtain ⟨aK, cK, h1K, _, _, _⟩ := hS.form
 refine C.skip (At.thenCode (C.seq (C.seq (C.region (W.move rfl rfl ?_)))))
 rw [hg2]
 refine W.convI rfl Tryz.underlying83 Tryz.underlying3 (by omega) rfl ?_
 refine W.move rfl rfl (W.nilCheck rfl rfl (W.fieldB (off := 2) (size := 1) (t := 3) (Fld.of (by kernel_rfl)) rfl rfl rfl ?_))
 refine W.loadB (v := .int .i64 (s.past : Int)) rfl Tryz.underlying3 rfl h1K rfl rfl ?_
 refine W.gtrI rfl rfl rfl (W.nil (At.thenCode ?_))
 refine C.condD rfl (fun c65 => ?_) (fun c65 => ?_)
 refine C.region (W.move rfl rfl (W.move rfl rfl ?_))
 refine W.convI rfl Tryz.underlying83 Tryz.underlying3 (by omega) rfl ?_
 refine W.call Tryz.call47 rfl (Mbx.rgone_ok F g dg s o (beNat y) _ hS hn40 hsl) rfl ?_
 rintro v69 w69 ⟨hS69, hC69⟩
 refine W.nil (At.thenCode (C.seq (C.region (W.assign rfl rfl (W.nil (At.thenCode (C.ret (At.blockRet (At.thenRet ?_)))))))))
 refine At.ret1 Tryz.results32 rfl ?_
 unfold againB
 rw [hag]
 have hgs : goneS s (beNat y) = ⟨goneL s.l (beNat y), beNat y⟩ := by unfold goneS; rw [if_neg (by omega)]
 refine ⟨rfl, Grown F w w69, ?_, fun k hk => .inl hk, fun k hk => hk.imp id fun h => h.1, hC69.mono fun k hk => by subst hk; exact hS.own⟩
 show RSt _ _ _ _ (goneS s (beNat y)) _
 rw [hgs]; exact hS69
 refine C.skip (At.thenCode (C.seq (C.region (W.assign rfl rfl (W.nil (At.thenCode (C.ret (At.blockRet (At.thenRet ?_)))))))))
 refine At.ret1 Tryz.results32 rfl ?_
 unfold againB
 rw [hag]
 have hgs : goneS s (beNat y) = s := by unfold goneS; rw [if_pos (by omega)]
 refine ⟨rfl, F, ?_, fun k hk => hk, fun k hk => .inl hk, Chg.refl _ _⟩
 show RSt _ _ _ _ (goneS s (beNat y)) _
 rw [hgs]; exact hS
 have ht2 : t ≠ 2 := fun e => c41 (by rw [e]; rfl)
 refine C.skip (At.blockNormal (At.thenCode (C.seq (C.region (W.assign rfl rfl (W.nil (At.thenCode (C.ret ?_))))))))
 refine At.ret1 Tryz.results32 rfl ?_
 have hag : againS s (t :: y) = none := again_x s ht1 ht2 y
 exact hself hS hag (Ext.refl _)
structure ROpened (w : World) (Fd : Nat → Prop) (dg : Nat) (rv : Int) (B : Box) (g : Nat) (w' : World) : Prop where
  out : ∃ F' Fd' : Nat → Prop, RSt w' F' g dg B.s B.owed ∧ Dk w' Fd' dg rv B.D ∧ (∀ k, F' k → w.heap.size ≤ k) ∧ (∀ k, F' k → ¬ Fd' k) ∧ (∀ k, Fd' k → Fd k ∨ w.heap.size ≤ k)
  chg : Chg Fd w w'
theorem ROpened.of {w w' : World} {Fd : Nat → Prop} {dg : Nat} {rv : Int} {B B' : Box} {g : Nat} {F' Fd' : Nat → Prop} (hb : B' = B) (h1 : RSt w' F' g dg B.s B.owed) (h2 : Dk w' Fd' dg rv B.D) (h3 : ∀ k, F' k → w.heap.size ≤ k) (h4 : ∀ k, F' k → ¬ Fd' k) (h5 : ∀ k, Fd' k → Fd k ∨ w.heap.size ≤ k) (hc : Chg Fd w w') : ROpened w Fd dg rv B' g w' := by
 rw [hb]; exact ⟨⟨F', Fd', h1, h2, h3, h4, h5⟩, hc⟩
theorem RSt.empty {w : World} {g dg : Nat} (h1 : Bk w g [.pointer (some ⟨dg, 0, none⟩), .slice none 0 0, .int .i64 0, .int .i64 (-1)]) : RSt w (fun k => k = g) g dg ⟨[], 0⟩ none :=
 ⟨⟨.slice none 0 0, h1, OwE.nil _ _ _ _ _ _, fun k hk => by cases hk⟩, rfl, fun k hk => by subst hk; exact h1.lt, ⟨fun x hx => by simp at hx, Nat.zero_le _, fun n hn => by cases hn⟩⟩
theorem ROpen_ok (Fd : Nat → Prop) (dg : Nat) (rv : Int) (D : Dsk) (w : World) (hD : Dk w Fd dg rv D) (hl : D.bs.length ≤ 1000000) :
   Ct Tryz.prog 10 #[.pointer (some ⟨dg, 0, none⟩)] w (fun v w' => ∃ g, v = .pointer (some ⟨g, 0, none⟩) ∧ ROpened w Fd dg rv (openB D) g w') := by
 refine Ct.enter [(0, .pointer (some ⟨dg, 0, none⟩))] Tryz.func10 rfl rfl rfl rfl ?_
 have hdlt := hD.lt
 refine C.seq (C.region (W.assign rfl rfl (W.nil (At.thenCode (C.seq (C.region (W.move rfl rfl ?_)))))))
 refine W.buildS (fs := _) [(0, 1), (1, 1), (2, 1), (3, 1)] [.pointer (some ⟨dg, 0, none⟩), .slice none 0 0, .int .i64 0, .int .i64 (-1)] [(.pointer none), (.slice none 0 0), (.int .i64 0), (.int .i64 0)] Tryz.underlying74 (by kernel_rfl) (by kernel_rfl) rfl rfl rfl ?_
 refine W.box [.pointer (some ⟨dg, 0, none⟩), .slice none 0 0, .int .i64 0, .int .i64 (-1)] rfl rfl rfl ?_
 intro g w3 hg hX3 hB3
 have hS3 := RSt.empty hB3
 have hD3 := hD.ext hX3
 have hs3 := hX3.size
 have hZd : ∀ k, Fd k → ¬ k = g := fun k hk hz => by have := hdlt k hk; omega
 refine W.assign rfl rfl (W.nil (At.thenCode (C.seq (C.seq (C.region (W.move rfl rfl ?_))))))
 refine W.eqlPtr rfl rfl rfl rfl ?_
 refine W.nil (At.thenCode ?_)
 refine C.condF rfl ?_
 refine C.skip (At.thenCode (C.seq (C.region (W.move rfl rfl ?_))))
 refine W.call Tryz.call23 rfl (Disk.RBytes_ok Fd dg rv D _ hD3) rfl ?_
 rintro v17 w17 ⟨⟨a17, c17, rfl, hS17, hb17⟩, hX17⟩
 have hs17 := hX17.size
 have hgl3 := hB3.lt
 have hSt17 := hS3.ext hX17
 have hD17 := hD3.ext hX17
 have hX17w := hX3.ext hX17
 have hbZ : ∀ ad, a17 = some ad → D.bs.map byteV ≠ [] → ¬ ad.block = g := fun ad e _ hz => by have := hb17 ad e; omega
 refine W.assign rfl rfl (W.nil (At.thenCode (C.seq (C.region (W.assign rfl rfl (W.nil (At.thenCode ?_)))))))
 refine C.seqMid (X := Nat × Bag) (fun x_ => [(0, .pointer (some ⟨dg, 0, none⟩)), (3, .pointer (some ⟨g, 0, none⟩)), (4, .slice a17 D.bs.length c17), (5, .int .i64 (x_.1 : Int))]) (fun x_ wm => x_.1 ≤ D.bs.length ∧ scanS ⟨[], 0⟩ D.bs = (x_.2, x_.1) ∧ Chg (fun k => k = g) w17 wm ∧ ∃ F1 : Nat → Prop, RSt wm F1 g dg x_.2 none ∧ ∀ k, F1 k → k = g ∨ w17.heap.size ≤ k) ?_ ?_
 refine C.block ?_
 refine C.loop (X := Nat × Bag) (fun x_ => [(0, .pointer (some ⟨dg, 0, none⟩)), (3, .pointer (some ⟨g, 0, none⟩)), (4, .slice a17 D.bs.length c17), (5, .int .i64 (x_.1 : Int))]) (fun x_ wl => x_.1 ≤ D.bs.length ∧ x_.2.l.length ≤ x_.1 ∧ scanS ⟨[], 0⟩ D.bs = ((scanS x_.2 (D.bs.drop x_.1)).1, x_.1 + (scanS x_.2 (D.bs.drop x_.1)).2) ∧ Chg (fun k => k = g) w17 wl ∧ ∃ F1 : Nat → Prop, RSt wl F1 g dg x_.2 none ∧ ∀ k, F1 k → k = g ∨ w17.heap.size ≤ k) (fun x_ => D.bs.length - x_.1) (0, (⟨[], 0⟩ : Bag)) (sc rfl (sc rfl (sc rfl (sc rfl (Sub.nil))))) ?start1 ?_
 case start1 =>
   show (0) ≤ D.bs.length ∧ ((⟨[], 0⟩ : Bag)).l.length ≤ (0) ∧ scanS ⟨[], 0⟩ D.bs = ((scanS ((⟨[], 0⟩ : Bag)) (D.bs.drop (0))).1, (0) + (scanS ((⟨[], 0⟩ : Bag)) (D.bs.drop (0))).2) ∧ Chg (fun k => k = g) w17 _ ∧ ∃ F1 : Nat → Prop, RSt _ F1 g dg ((⟨[], 0⟩ : Bag)) none ∧ ∀ k, F1 k → k = g ∨ w17.heap.size ≤ k
   exact ⟨by omega, Nat.le_refl _, by rw [List.drop_zero, Nat.zero_add], Chg.refl _ _, fun k => k = g, hSt17, fun k hk => .inl hk⟩
 rintro ⟨at_, sb⟩ wl hI_
 replace hI_ : at_ ≤ D.bs.length ∧ sb.l.length ≤ at_ ∧ scanS ⟨[], 0⟩ D.bs = ((scanS sb (D.bs.drop at_)).1, at_ + (scanS sb (D.bs.drop at_)).2) ∧ Chg (fun k => k = g) w17 wl ∧ ∃ F1 : Nat → Prop, RSt wl F1 g dg sb none ∧ ∀ k, F1 k → k = g ∨ w17.heap.size ≤ k := hI_
 obtain ⟨hat, hln, hscan, hCl, F1, hSt1, hF1⟩ := hI_
 refine C.weaken (l' := [(0, .pointer (some ⟨dg, 0, none⟩)), (3, .pointer (some ⟨g, 0, none⟩)), (4, .slice a17 D.bs.length c17), (5, .int .i64 (at_ : Int))]) (sc rfl (sc rfl (sc rfl (sc rfl (Sub.nil))))) ?_
 refine C.block (C.seq (C.region (W.move rfl rfl (W.move rfl rfl ?_))))
 refine W.call Tryz.call31 rfl (Mbx.rread_ok a17 c17 D.bs at_ _ (Sl.chg hS17 hCl fun ad e hne => hbZ ad e hne) hl hat) rfl ?_
 rintro v21 w21 ⟨⟨v1, n1, rfl, hx21⟩, hX21⟩
 have hs21 := hX21.size
 have hsl := hCl.size
 have hSt21 := hSt1.ext hX21
 have hC21 : Chg (fun k => k = g) w17 w21 := hCl.trans (hX21.mono fun _ c => c.elim)
 refine W.move rfl rfl (W.extract rfl rfl rfl (W.extract rfl rfl rfl (W.extract rfl rfl rfl (W.assign rfl rfl (W.assign rfl rfl (W.assign rfl rfl (W.nil (At.thenCode (C.seq (C.seq (C.region ?_)))))))))))
 refine W.move rfl rfl ?_
 first | refine W.notD rfl rfl ?_ | refine W.notB rfl rfl ?_
 refine W.move rfl rfl ?_
 first | refine W.splitD (fun g27 => ?_) (fun g27 => ?_) | refine W.splitB (fun g27 => ?_) (fun g27 => ?_)
 have hst : rec1 (D.bs.drop at_) = none := by simpa using g27
 have hfin1 : scanS ⟨[], 0⟩ D.bs = (sb, at_) := by rw [hscan, scanS_stop (.inl hst)]; rfl
 refine W.skips rfl rfl rfl rfl rfl rfl (W.skips rfl rfl rfl rfl rfl rfl (W.skips rfl rfl rfl rfl rfl rfl (W.skips rfl rfl rfl rfl rfl rfl (W.pickT rfl rfl rfl (W.nil (At.thenCode ?_))))))
 refine C.condT rfl ?_
 refine C.exit (At.thenExit ?_)
 refine At.blockOther rfl ?_
 refine At.thenExit (At.blockSelf ?_)
 refine At.thenMid (at_, sb) (sc rfl (sc rfl (sc rfl (sc rfl (Sub.nil))))) (show (at_) ≤ D.bs.length ∧ scanS ⟨[], 0⟩ D.bs = ((sb), (at_)) ∧ Chg (fun k => k = g) w17 _ ∧ ∃ F1 : Nat → Prop, RSt _ F1 g dg (sb) none ∧ ∀ k, F1 k → k = g ∨ w17.heap.size ≤ k from ?_)
 exact ⟨hat, hfin1, hC21, F1, hSt21, hF1⟩
 obtain ⟨x, hx⟩ : ∃ x, rec1 (D.bs.drop at_) = some x := Option.isSome_iff_exists.1 (by simpa using g27)
 obtain ⟨rfl, ax, cx, rfl, hbx⟩ := hx21 x hx
 have hxl := rec1_len hx
 rw [List.length_drop] at hxl
 refine W.wants rfl rfl rfl rfl (W.move rfl rfl (W.wants rfl rfl rfl rfl (W.move rfl rfl (W.wants rfl rfl rfl rfl ?_))))
 refine W.call Tryz.call32 rfl (Mbx.ragain_ok F1 g dg sb none ax cx x _ hSt21 hbx (by omega) (by omega)) rfl ?_
 rintro v30 w30 ⟨rfl, F2, hSt30, hF12, hF21, hC30⟩
 have hF2 : ∀ k, F2 k → k = g ∨ w17.heap.size ≤ k := fun k hk => by
   rcases hF21 k hk with h | h
   exact hF1 k h
   exact .inr (by omega)
 have hC30' : Chg (fun k => k = g) w17 w30 := hC21.news hC30 fun k hk => hF1 k hk
 refine W.wants rfl rfl rfl rfl ?_
 first | refine W.notD rfl rfl ?_ | refine W.notB rfl rfl ?_
 refine W.pickF rfl rfl rfl (W.nil (At.thenCode ?_))
 first | refine C.condD rfl (fun c32 => ?_) (fun c32 => ?_) | refine C.cond rfl (fun c32 => ?_) (fun c32 => ?_)
 have hag : againS sb x = none := by simpa using c32
 have hfin1 : scanS ⟨[], 0⟩ D.bs = (sb, at_) := by rw [hscan, scanS_stop (.inr ⟨x, hx, hag⟩)]; rfl
 have hab : againB sb x = sb := by unfold againB; rw [hag]; rfl
 rw [hab] at hSt30
 refine C.exit (At.thenExit ?_)
 refine At.blockOther rfl ?_
 refine At.thenExit (At.blockSelf ?_)
 refine At.thenMid (at_, sb) (sc rfl (sc rfl (sc rfl (sc rfl (Sub.nil))))) (show (at_) ≤ D.bs.length ∧ scanS ⟨[], 0⟩ D.bs = ((sb), (at_)) ∧ Chg (fun k => k = g) w17 _ ∧ ∃ F1 : Nat → Prop, RSt _ F1 g dg (sb) none ∧ ∀ k, F1 k → k = g ∨ w17.heap.size ≤ k from ?_)
 exact ⟨hat, hfin1, hC30', F2, hSt30, hF2⟩
 obtain ⟨s', hs'⟩ : ∃ s', againS sb x = some s' := Option.isSome_iff_exists.1 (by simpa using c32)
 have hab : againB sb x = s' := by unfold againB; rw [hs']; rfl
 rw [hab] at hSt30
 have hlen' := againS_len hs'
 refine C.skip (At.thenCode (C.region (W.move rfl rfl (W.assign rfl rfl (W.nil (At.blockNormal ?_))))))
 have hstep := scanS_step hx hs'
 rw [List.drop_drop] at hstep
 refine At.thenRound (at_ + (12 + x.length), s') (sc rfl (sc rfl (sc rfl (sc (look_eq rfl (iV (by omega))) (Sub.nil))))) (show (at_ + (12 + x.length)) ≤ D.bs.length ∧ (s').l.length ≤ (at_ + (12 + x.length)) ∧ scanS ⟨[], 0⟩ D.bs = ((scanS (s') (D.bs.drop (at_ + (12 + x.length)))).1, (at_ + (12 + x.length)) + (scanS (s') (D.bs.drop (at_ + (12 + x.length)))).2) ∧ Chg (fun k => k = g) w17 _ ∧ ∃ F1 : Nat → Prop, RSt _ F1 g dg (s') none ∧ ∀ k, F1 k → k = g ∨ w17.heap.size ≤ k from ?_) (show D.bs.length - (at_ + (12 + x.length)) < D.bs.length - at_ from ?_)
 refine ⟨by omega, by omega, ?_, hC30', F2, hSt30, hF2⟩
 rw [hscan, hstep]
 simp only [Nat.add_assoc]
 omega
 rintro ⟨n0, sf⟩ wm hI_
 replace hI_ : n0 ≤ D.bs.length ∧ scanS ⟨[], 0⟩ D.bs = (sf, n0) ∧ Chg (fun k => k = g) w17 wm ∧ ∃ F1 : Nat → Prop, RSt wm F1 g dg sf none ∧ ∀ k, F1 k → k = g ∨ w17.heap.size ≤ k := hI_
 obtain ⟨hn0, hfin, hCf, Ff, hStf, hFf⟩ := hI_
 refine C.weaken (l' := [(0, .pointer (some ⟨dg, 0, none⟩)), (3, .pointer (some ⟨g, 0, none⟩)), (4, .slice a17 D.bs.length c17), (5, .int .i64 (n0 : Int))]) (sc rfl (sc rfl (sc rfl (sc rfl (Sub.nil))))) ?_
 refine C.seq (C.seq (C.region (W.move rfl rfl (W.move rfl rfl (W.lenS rfl Tryz.underlying22 rfl (W.lssI rfl rfl rfl (W.nil (At.thenCode ?_))))))))
 refine C.condD rfl (fun c37 => ?_) (fun c37 => ?_)
 have hlt : n0 < D.bs.length := by omega
 have hDf := hD17.chg hCf hZd
 refine C.seq (C.region (W.move rfl rfl (W.move rfl rfl ?_)))
 refine W.call Tryz.call33 rfl (Disk.RCut_ok Fd dg rv D (n0 : Nat) _ hDf) rfl ?_
 rintro v40 w40 ⟨rfl, hD40, hC40⟩
 have hsf := hCf.size
 have hFfd : ∀ k, Ff k → w.heap.size ≤ k ∧ ¬ Fd k := fun k hk => by
   have h1 : w.heap.size ≤ k := by
     rcases hFf k hk with h | h
     omega
     have := hX17w.size; omega
   exact ⟨h1, fun hd => by have := hdlt k hd; omega⟩
 have hSt40 := hStf.chg hC40 fun k hk hd => (hFfd k hk).2 hd
 have hs40 := hC40.size
 have hC40w : Chg Fd w w40 := ((hX17w.mono fun _ c => c.elim).news hCf fun k hk => .inr (by omega)).trans hC40
 have hFg : ∀ k, Ff k → ¬ Grown Fd wm w40 k := fun k hk hd => by
   rcases hd with hd | hd
   exact (hFfd k hk).2 hd
   have := hStf.lt k hk; omega
 have hGn : ∀ k, Grown Fd wm w40 k → Fd k ∨ w.heap.size ≤ k := fun k hk => hk.imp id fun h => by have := hX17w.size; omega
 refine W.assign rfl rfl (W.nil (At.thenCode (C.seq (C.region (W.move rfl rfl (W.neqI rfl rfl rfl (W.nil (At.thenCode ?_))))))))
 refine C.condD rfl (fun c42 => ?_) (fun c42 => ?_)
 have hce : ¬ cutE D (n0 : Nat) = 0 := by omega
 have hob : openB D = ⟨cutD D (n0 : Nat), sf, some n0⟩ := by unfold openB; rw [hfin]; simp only; rw [if_pos hlt, if_neg hce]
 obtain ⟨aK, cK, h1, _, _, _⟩ := hSt40.form
 refine C.region (W.move rfl rfl (W.move rfl rfl (W.nilCheck rfl rfl (W.fieldB (off := 3) (size := 1) (t := 3) (Fld.of (by kernel_rfl)) rfl rfl rfl ?_))))
 refine W.store1 rfl rfl rfl h1 (by simp) (by kernel_rfl) ?_
 intro wz hCz hBz
 have hStz : RSt wz Ff g dg sf (some n0) := hSt40.cell (p := sf.past) hCz (fun v hB' => by
   have e := Bk.same hB' h1
   simp only [List.cons.injEq, and_true, true_and] at e
   obtain rfl := e
   exact hBz) hSt40.ok.2.1 (fun n hn => by obtain rfl := Option.some.inj hn; omega)
 refine W.nil (At.thenCode (C.seq (C.region (W.move rfl rfl (W.assign rfl rfl (W.nil (At.thenCode (C.ret ?_))))))))
 refine At.ret1 Tryz.results10 rfl ?_
 exact ⟨g, rfl, ROpened.of hob hStz (hD40.chg hCz fun k hk hkg => by subst hkg; exact hFg _ hStf.own hk) (fun k hk => (hFfd k hk).1) hFg hGn (hC40w.news hCz fun k hk => .inr (by omega))⟩
 have hce : cutE D (n0 : Nat) = 0 := by omega
 have hob : openB D = ⟨cutD D (n0 : Nat), sf, none⟩ := by unfold openB; rw [hfin]; simp only; rw [if_pos hlt, if_pos hce]
 refine C.skip (At.thenCode (C.seq (C.region (W.move rfl rfl (W.assign rfl rfl (W.nil (At.thenCode (C.ret ?_))))))))
 refine At.ret1 Tryz.results10 rfl ?_
 exact ⟨g, rfl, ROpened.of hob hSt40 hD40 (fun k hk => (hFfd k hk).1) hFg hGn hC40w⟩
 have hge : n0 = D.bs.length := by omega
 have hDf := hD17.chg hCf hZd
 refine C.skip (At.thenCode (C.seq (C.region (W.move rfl rfl (W.assign rfl rfl (W.nil (At.thenCode (C.ret ?_))))))))
 refine At.ret1 Tryz.results10 rfl ?_
 have hob : openB D = ⟨D, sf, none⟩ := by unfold openB; rw [hfin]; simp only; rw [if_neg (by omega)]
 have h1 : ∀ k, Ff k → w.heap.size ≤ k := fun k hk => by
   rcases hFf k hk with h | h
   omega
   have := hX17w.size; omega
 exact ⟨g, rfl, ROpened.of hob hStf hDf h1 (fun k hk hd => by have := hdlt k hd; have := h1 k hk; omega) (fun k hk => .inl hk) ((hX17w.mono fun _ c => c.elim).news hCf fun k hk => .inr (by omega))⟩
end Go.Proofs.YthiijdbiikljpaaGreat.Mbx
