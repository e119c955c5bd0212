/- The reference's store (package courierbagref22): records, the store in memory, what it tells. The reference's store: reading a record. The reference's store: a record is kept, or undone. Chapter 23's example, and the walk of its law on proofs. Chapter 23: what its laws on letters and rounds need beside: parts of rows, keys that are compared, a store beside a growing row; what is fetched. The reference's reader. The reference's functions that read: notes, entries. The reference's functions that write: notes. The reference's functions that write: submissions. -/
import Derived.Test.YthiijdbiikljpaaGreatZj
import Derived.Test.YthiijdbiikljpaaGreatZh
import Derived.Test.YthiijdbiikljpaaGreatZi
namespace Go.Proofs.YthiijdbiikljpaaGreat.Mbx
open Go Go.RowKit Go.Proofs.YthiijdbiikljpaaGreat.KW Go.Proofs.YthiijdbiikljpaaGreat.Words Go.Proofs.YthiijdbiikljpaaGreat.Sha Go.Proofs.YthiijdbiikljpaaGreat.RSha Go.Proofs.YthiijdbiikljpaaGreat.Grp Go.Proofs.YthiijdbiikljpaaGreat.Cod Go.Proofs.YthiijdbiikljpaaGreat.Disk
set_option linter.unusedVariables false
set_option linter.unusedSimpArgs false
set_option maxRecDepth 100000
theorem EBatR : Elem Tryz.prog 39 4 64 (.agg #[.int .i64 0, .int .i64 0, .slice none 0 0, .slice none 0 0]) := Elem.of (by kernel_rfl) rfl rfl
theorem rrecord_ok (a : Option Addr) (c : Nat) (b : List UInt8) (w : World) (hb : Bs w a c b) (hl : b.length ≤ 1000000) :
   Ct Tryz.prog 75 #[.slice a b.length c] w (fun v w' => Ow w' w.heap.size 5 v (recB b) ∧ Ext w w') := by
 refine Ct.enter [(0, .slice a b.length c)] Tryz.func75 rfl rfl rfl rfl ?_
 have hsl := shaV_length b
 have hs8 := sum8_length b
 have hp1 : be32 b.length <+: recB b := ⟨_, rfl⟩
 have hp2 : be32 b.length ++ sum8 b <+: recB b := ⟨b, by unfold recB; rw [List.append_assoc]⟩
 have hp3 : (be32 b.length ++ sum8 b) ++ b = recB b := by unfold recB; rw [List.append_assoc]
 have hp4 : (be32 b.length ++ sum8 b) ++ b <+: recB b := by rw [hp3]; exact List.prefix_refl _
 refine C.seq (C.region (W.assign rfl rfl (W.nil (At.thenCode (C.seq (C.region (W.move rfl rfl ?_)))))))
 refine W.call Tryz.call61 rfl (RSha.RSha_ok a c b _ hb (by omega)) rfl ?_
 rintro v5 w5 ⟨rfl, hX5⟩
 refine W.alloc (z := .agg (List.replicate 32 (byteV 0)).toArray) (List.replicate 32 (byteV 0)) (by kernel_rfl) rfl rfl ?_
 intro g3 w3 hg3 hX3 hB3
 refine W.storeA ((shaV b).map byteV) rfl rfl hB3 (by rw [List.length_map, hsl]; rfl) (by rw [List.length_map, hsl]; kernel_rfl) (bytes_oneCell _) ?_
 intro wq hcq hBq
 have hs5 := hX5.size
 have hXq : Ext w wq := (hX5.ext hX3).news hcq fun k hk => Or.inr (by omega)
 have hlq := hBq.lt
 refine W.nil (At.thenCode (C.seq ?_))
 refine C.regionAnyG (GP wq.heap.size 5 1 12 (fun _ => False) ((recB b).map byteV)) (GP.trans) (GP.ext) 9 (E_ (.slice a b.length c) :: E_ (.int .i64 (b.length : Int)) :: E_ (.int .u32 (b.length : Int)) :: (fun v w => Ow w wq.heap.size 5 v (be32 b.length)) :: E_ (.slice (some ⟨g3, 0, none⟩) 8 32) :: (fun v w => Ow w wq.heap.size 5 v (be32 b.length ++ sum8 b)) :: E_ (.slice a b.length c) :: (fun v w => Ow w wq.heap.size 5 v (recB b)) :: (fun v w => Ow w wq.heap.size 5 v (recB b)) :: []) [(0, .slice a b.length c), (3, .pointer (some ⟨g3, 0, none⟩))] [] (sc rfl (sc rfl (Sub.nil))) (Sub.nil) (sc rfl (sc rfl (Sub.nil))) (by kernel_rfl) rfl rfl rfl (sN (sN (sN (sM (fun _ _ _ h g => GP.rowB g h hp1) (sN (sM (fun _ _ _ h g => GP.rowB g h hp2) (sN (sM (fun _ _ _ h g => GP.rowB g h (List.prefix_refl _)) (sM (fun _ _ _ h g => GP.rowB g h (List.prefix_refl _)) (trivial)))))))))) ?_ ?_
 refine And.intro ?_ ?_
 intro L_ wr hX_ hs_ hf_ hd_
 refine W.s1 (hs_ 0 _ rfl) (W.move rfl rfl (W.nil ?_))
 exact At.step ((GP.ext) _ _ (Ext.refl _)) rfl
 refine And.intro ?_ ?_
 intro L_ wr hX_ hs_ hf_ hd_
 obtain ⟨_, e0, rfl⟩ := hd_ 0 rfl
 refine W.s1 (e0 _ rfl) (W.lenS rfl Tryz.underlying22 rfl (W.nil ?_))
 exact At.step ((GP.ext) _ _ (Ext.refl _)) rfl
 refine And.intro ?_ ?_
 intro L_ wr hX_ hs_ hf_ hd_
 obtain ⟨_, e1, rfl⟩ := hd_ 1 rfl
 refine W.s1 (e1 _ rfl) ?_
 refine W.convIN (M := 4294967296) rfl Tryz.underlying3 Tryz.underlying101 rfl rfl (by omega) rfl ?_
 refine W.nil ?_
 exact At.step ((GP.ext) _ _ (Ext.refl _)) rfl
 refine And.intro ?_ ?_
 intro L_ wr hX_ hs_ hf_ hd_
 obtain ⟨_, e2, rfl⟩ := hd_ 2 rfl
 refine W.s1 (e2 _ rfl) ?_
 refine W.call Tryz.call87 rfl (Words.RPut32_ok none 0 [] b.length _ (Sl.none _ _) (by simp)) rfl ?_
 rintro v9 w9 ⟨ho9, hX9⟩
 rw [List.nil_append] at ho9
 refine W.nil ?_
 exact At.step (GP.ext _ _ hX9) (ownsRow_base ho9 hX_.size)
 refine And.intro ?_ ?_
 intro L_ wr hX_ hs_ hf_ hd_
 refine W.s1 (hs_ 3 _ rfl) ?_
 refine W.sliceAH (m := 8) X8 Tryz.underlying43 rfl rfl (by decide) (by decide) rfl ?_
 refine W.nil ?_
 exact At.step ((GP.ext) _ _ (Ext.refl _)) rfl
 refine And.intro ?_ ?_
 intro L_ wr hX_ hs_ hf_ hd_
 obtain ⟨v3, e3, r3⟩ := hd_ 3 rfl
 obtain ⟨_, e4, rfl⟩ := hd_ 4 rfl
 refine W.s2 (e3 _ rfl) (e4 _ rfl) ?_
 have h8 := sum8_bs (GP.bkOld hX_ hBq hlq (fun c => c))
 refine W.appendGB (ys := sum8 b) E8 Tryz.underlying22 rfl (by rw [hs8]; rfl) r3 h8 (by rw [be32_length, hs8]; decide) hX_.size rfl ?_
 intro v11 w11 ho11 hg11
 refine W.nil ?_
 exact At.step (GP.grewB hg11 r3 hp2 (fun q hq => Or.inr ⟨(World.ownsRow.lt r3 q hq).1, by rw [be32_length, hs8]; decide⟩)) ho11
 refine And.intro ?_ ?_
 intro L_ wr hX_ hs_ hf_ hd_
 refine W.s1 (hs_ 0 _ rfl) (W.move rfl rfl (W.nil ?_))
 exact At.step ((GP.ext) _ _ (Ext.refl _)) rfl
 refine And.intro ?_ ?_
 intro L_ wr hX_ hs_ hf_ hd_
 obtain ⟨v5, e5, r5⟩ := hd_ 5 rfl
 obtain ⟨_, e6, rfl⟩ := hd_ 6 rfl
 refine W.s2 (e5 _ rfl) (e6 _ rfl) ?_
 refine W.appendGB (ys := b) E8 Tryz.underlying22 rfl rfl r5 ((hb.ext hXq).ext (GP.chg hX_ (Nat.le_refl _))) (by rw [List.length_append, be32_length, hs8]; omega) hX_.size rfl ?_
 intro v13 w13 ho13 hg13
 refine W.nil ?_
 exact At.step (GP.grewB hg13 r5 hp4 (fun q hq => Or.inr ⟨(World.ownsRow.lt r5 q hq).1, by rw [List.length_append, be32_length, hs8]; omega⟩)) (by rw [← hp3]; exact ho13)
 refine And.intro ?_ ?_
 intro L_ wr hX_ hs_ hf_ hd_
 obtain ⟨v7, e7, r7⟩ := hd_ 7 rfl
 refine W.s1 (e7 _ rfl) (W.assign rfl rfl (W.nil ?_))
 exact At.step (GP.ext _ _ (Ext.refl _)) r7
 exact trivial
 intro L_ wr hX2 hs_ hv_
 obtain ⟨v8, e8, r8⟩ := hv_ 8 (by decide)
 refine W.weaken (l' := [(2, _), (0, _), (3, _)]) (sc (e8 _ rfl) (sc (hs_ _ _ rfl) (sc (hs_ _ _ rfl) (Sub.nil)))) ?_
 refine W.nil (At.thenCode (C.ret ?_))
 refine At.ret1 Tryz.results75 rfl ?_
 exact ⟨ownsRow_base r8 hXq.size, hXq.ext (GP.chg hX2 (Nat.le_refl _))⟩
structure RSt (w : World) (F : Nat → Prop) (g dg : Nat) (s : Bag) (o : Option Nat) : Prop where
  out : ∃ v, Bk w g [.pointer (some ⟨dg, 0, none⟩), v, .int .i64 (s.past : Int), .int .i64 (owedI o)] ∧ OwE (fun k => ¬ F k ∨ k = g) w 0 39 4 RBat v s.l ∧ ∀ k, v.ownBlock = some k → F k ∧ k ≠ g
  own : F g
  lt : ∀ k, F k → k < w.heap.size
  ok : (∀ x ∈ s.l, BatOk x ∧ batE x = 0) ∧ s.past ≤ 1099511627776 ∧ ∀ n, o = some n → n ≤ 1099511627776
theorem RSt.chg {S F : Nat → Prop} {w w' : World} {g dg : Nat} {s : Bag} {o : Option Nat} (h : RSt w F g dg s o) (c : Chg S w w') (hd : ∀ k, F k → ¬ S k) : RSt w' F g dg s o := by
 obtain ⟨v, h1, h2, h3⟩ := h.out
 obtain ⟨cs, ho, he⟩ := h2
 exact ⟨⟨v, h1.chg c (hd _ h.own), ⟨cs, ownsRow_chg ho c (fun k hk => hd k (h3 k hk).1), fun i hi => rBat.chg (he i hi) (c.mono fun k hk => .inl (.inl fun hf => hd k hf hk))⟩, h3⟩, h.own, fun k hk => Nat.lt_of_lt_of_le (h.lt k hk) c.size, h.ok⟩
theorem RSt.ext {F : Nat → Prop} {w w' : World} {g dg : Nat} {s : Bag} {o : Option Nat} (h : RSt w F g dg s o) (c : Ext w w') : RSt w' F g dg s o := h.chg c fun _ _ x => x
theorem RSt.form {F : Nat → Prop} {w : World} {g dg : Nat} {s : Bag} {o : Option Nat} (h : RSt w F g dg s o) : ∃ a c, Bk w g [.pointer (some ⟨dg, 0, none⟩), .slice a s.l.length c, .int .i64 (s.past : Int), .int .i64 (owedI o)] ∧ OwE (fun k => ¬ F k ∨ k = g) w 0 39 4 RBat (.slice a s.l.length c) s.l ∧ (∀ k, (Value.slice a s.l.length c).ownBlock = some k → F k ∧ k ≠ g) ∧ Els (fun k => ¬ F k ∨ k = g) w 4 RBat a c s.l := by
 obtain ⟨v, h1, h2, h3⟩ := h.out
 obtain ⟨a, c, rfl, hE, _⟩ := OwE.form rBat h2 (fun k hk hq => by
   obtain ⟨q1, q2⟩ := h3 k hk
   rcases hq with hq | hq
   exact hq q1
   exact q2 hq)
 exact ⟨a, c, h1, h2, h3, hE⟩
theorem RLen_ok (F : Nat → Prop) (g dg : Nat) (s : Bag) (o : Option Nat) (w : World) (hS : RSt w F g dg s o) :
   Ct Tryz.prog 49 #[.pointer (some ⟨g, 0, none⟩)] w (fun v w' => v = .int .i64 (s.l.length : Int) ∧ w = w') := by
 obtain ⟨aK, cK, h1, _, _, hE⟩ := hS.form
 refine Ct.enter [(0, .pointer (some ⟨g, 0, none⟩))] Tryz.func49 rfl rfl rfl rfl ?_
 refine C.seq (C.region (W.assign rfl rfl (W.nil (At.thenCode (C.seq (C.region (W.move rfl rfl (W.nilCheck rfl rfl (W.fieldB (off := 1) (size := 1) (t := 72) (Fld.of (by kernel_rfl)) rfl rfl rfl ?_)))))))))
 refine W.loadB (v := .slice aK s.l.length cK) rfl Tryz.underlying72 rfl h1 rfl rfl ?_
 refine W.lenS rfl Tryz.underlying72 rfl (W.assign rfl rfl (W.nil (At.thenCode (C.ret ?_))))
 refine At.ret1 Tryz.results49 rfl ?_
 exact ⟨rfl, rfl⟩
theorem RHas_ok (F : Nat → Prop) (g dg : Nat) (s : Bag) (o : Option Nat) (r c : Int) (w : World) (hS : RSt w F g dg s o) (hsl : s.l.length ≤ 1000000000) :
   Ct Tryz.prog 51 #[.pointer (some ⟨g, 0, none⟩), .int .i64 r, .int .i64 c] w (fun v w' => v = .bool (hasL s.l r c) ∧ w = w') := by
 obtain ⟨aK, cK, h1, _, _, hE⟩ := hS.form
 refine Ct.enter [(0, .pointer (some ⟨g, 0, none⟩)), (1, .int .i64 r), (2, .int .i64 c)] Tryz.func51 rfl rfl rfl rfl ?_
 refine C.seq (C.region (W.assign rfl rfl (W.nil (At.thenCode (C.seq (C.seq (C.region (W.assign rfl rfl (W.nil (At.thenCode (C.block ?_)))))))))))
 refine C.loop (X := Nat) (fun x_ => [(0, .pointer (some ⟨g, 0, none⟩)), (1, .int .i64 r), (2, .int .i64 c), (7, .int .i64 (x_ : Int))]) (fun x_ w1 => w = w1 ∧ x_ ≤ s.l.length ∧ hasL (s.l.take x_) r c = false) (fun x_ => s.l.length - x_) (0) (sc rfl (sc rfl (sc rfl (sc rfl (Sub.nil))))) ?start1 ?_
 case start1 =>
   show w = _ ∧ (0) ≤ s.l.length ∧ hasL (s.l.take (0)) r c = false
   exact ⟨rfl, by omega, rfl⟩
 rintro i w1 hI_
 replace hI_ : w = w1 ∧ i ≤ s.l.length ∧ hasL (s.l.take i) r c = false := hI_
 obtain ⟨rfl, hi, hno⟩ := hI_
 refine C.weaken (l' := [(0, .pointer (some ⟨g, 0, none⟩)), (1, .int .i64 r), (2, .int .i64 c), (7, .int .i64 (i : Int))]) (sc rfl (sc rfl (sc rfl (sc rfl (Sub.nil))))) ?_
 refine C.seq (C.seq (C.region (W.move rfl rfl (W.move rfl rfl (W.nilCheck rfl rfl (W.fieldB (off := 1) (size := 1) (t := 72) (Fld.of (by kernel_rfl)) rfl rfl rfl ?_))))))
 refine W.loadB (v := .slice aK s.l.length cK) rfl Tryz.underlying72 rfl h1 rfl rfl ?_
 refine W.lenS rfl Tryz.underlying72 rfl (W.lssI rfl rfl rfl (W.nil (At.thenCode ?_)))
 refine C.condD rfl (fun c14 => ?_) (fun c14 => ?_)
 have hlt : i < s.l.length := by omega
 obtain ⟨x, hx⟩ : ∃ x, x = s.l[i] := ⟨_, rfl⟩
 have htk : hasL (s.l.take (i + 1)) r c = decide (x.round = r ∧ x.chain = c) := by rw [List.take_succ_eq_append_getElem hlt, hasL_append, hno, ← hx, Bool.false_or]
 refine C.skip (At.thenCode (C.seq (C.block (C.seq (C.region (W.move rfl rfl (W.nilCheck rfl rfl (W.fieldB (off := 1) (size := 1) (t := 72) (Fld.of (by kernel_rfl)) rfl rfl rfl ?_))))))))
 refine W.loadB (v := .slice aK s.l.length cK) rfl Tryz.underlying72 rfl h1 rfl rfl ?_
 refine W.move rfl rfl ?_
 refine W.indexE EBatR Tryz.underlying72 rfl hE rfl hlt rfl ?_
 intro ad22 cs22 hc22 hR22 hl22
 rw [← hx] at hR22
 obtain ⟨vi22, vl22, rfl, _⟩ := hR22
 refine W.fieldAddr (off := 0) (size := 1) (t := 3) (Fld.of (by kernel_rfl)) rfl rfl rfl ?_
 refine W.load (v := .int .i64 x.round) rfl Tryz.underlying3 rfl (hc22 0 _ rfl) rfl ?_
 refine W.move rfl rfl (W.eqlI rfl rfl rfl (W.move rfl rfl ?_))
 refine W.splitD (fun g27 => ?_) (fun g27 => ?_)
 refine W.wants rfl rfl rfl rfl (W.move rfl rfl (W.wants rfl rfl rfl rfl (W.nilCheck rfl rfl (W.wants rfl rfl rfl rfl (W.fieldB (off := 1) (size := 1) (t := 72) (Fld.of (by kernel_rfl)) rfl rfl rfl (W.wants rfl rfl rfl rfl ?_))))))
 refine W.loadB (v := .slice aK s.l.length cK) rfl Tryz.underlying72 rfl h1 rfl rfl ?_
 refine W.wants rfl rfl rfl rfl (W.move rfl rfl (W.wants rfl rfl rfl rfl ?_))
 refine W.indexE EBatR Tryz.underlying72 rfl hE rfl hlt rfl ?_
 intro ad33 cs33 hc33 hR33 hl33
 rw [← hx] at hR33
 obtain ⟨vi33, vl33, rfl, _⟩ := hR33
 refine W.wants rfl rfl rfl rfl ?_
 refine W.fieldAddr (off := 1) (size := 1) (t := 3) (Fld.of (by kernel_rfl)) rfl rfl rfl ?_
 refine W.wants rfl rfl rfl rfl ?_
 refine W.load (v := .int .i64 x.chain) rfl Tryz.underlying3 rfl (hc33 1 _ rfl) rfl ?_
 refine W.wants rfl rfl rfl rfl (W.move rfl rfl (W.wants rfl rfl rfl rfl (W.eqlI rfl rfl rfl (W.pickT rfl rfl rfl (W.nil (At.thenCode ?_))))))
 refine C.condD rfl (fun c38 => ?_) (fun c38 => ?_)
 refine C.seq (C.region (W.assign rfl rfl (W.nil (At.thenCode (C.ret (At.blockRet (At.thenRet (At.thenRet (At.blockRet (At.thenRet ?_))))))))))
 refine At.ret1 Tryz.results51 rfl ?_
 have h2 : hasL s.l r c = true := by
   unfold hasL
   exact List.any_eq_true.2 ⟨x, hx ▸ List.getElem_mem hlt, decide_eq_true ⟨by simpa using g27, by simpa using c38⟩⟩
 rw [h2]
 exact ⟨rfl, rfl⟩
 refine C.skip (At.blockNormal (At.thenCode (C.region (W.move rfl rfl ?_))))
 refine W.addI rfl rfl (by omega) rfl ?_
 refine W.assign rfl rfl (W.nil ?_)
 refine At.thenRound (i + 1) (sc rfl (sc rfl (sc rfl (sc (look_eq rfl (iV (by omega))) (Sub.nil))))) (show w = _ ∧ (i + 1) ≤ s.l.length ∧ hasL (s.l.take (i + 1)) r c = false from ?_) (show s.l.length - (i + 1) < s.l.length - i from ?_)
 exact ⟨rfl, by omega, by rw [htk]; exact decide_eq_false fun h => (by simpa using c38 : ¬ x.chain = c) h.2⟩
 omega
 refine W.skips rfl rfl rfl rfl rfl rfl (W.skips rfl rfl rfl rfl rfl rfl (W.skips rfl rfl rfl rfl rfl rfl (W.skips rfl rfl rfl rfl rfl rfl (W.skips rfl rfl rfl rfl rfl rfl (W.skips rfl rfl rfl rfl rfl rfl (W.skips rfl rfl rfl rfl rfl rfl (W.skips rfl rfl rfl rfl rfl rfl (W.skips rfl rfl rfl rfl rfl rfl (W.skips rfl rfl rfl rfl rfl rfl (W.pickF rfl rfl rfl (W.nil ?_)))))))))))
 refine At.thenCode ?_
 refine C.condF rfl ?_
 refine C.skip (At.blockNormal (At.thenCode (C.region (W.move rfl rfl ?_))))
 refine W.addI rfl rfl (by omega) rfl ?_
 refine W.assign rfl rfl (W.nil ?_)
 refine At.thenRound (i + 1) (sc rfl (sc rfl (sc rfl (sc (look_eq rfl (iV (by omega))) (Sub.nil))))) (show w = _ ∧ (i + 1) ≤ s.l.length ∧ hasL (s.l.take (i + 1)) r c = false from ?_) (show s.l.length - (i + 1) < s.l.length - i from ?_)
 exact ⟨rfl, by omega, by rw [htk]; exact decide_eq_false fun h => (by simpa using g27 : ¬ x.round = r) h.1⟩
 omega
 have hi' : i = s.l.length := by omega
 subst hi'
 rw [List.take_length] at hno
 refine C.exit (At.thenExit (At.thenExit (At.blockSelf (At.thenCode (C.seq (C.region (W.assign rfl rfl (W.nil (At.thenCode (C.ret ?_))))))))))
 refine At.ret1 Tryz.results51 rfl ?_
 rw [hno]
 exact ⟨rfl, rfl⟩
def RNextR (w : World) (i : Nat) (v : Value) (r : Option (List UInt8)) : Prop := ∃ v1 n, v = .tuple #[v1, .int .i64 n, .bool r.isSome] ∧ ∀ x, r = some x → n = (i : Int) + 12 + (x.length : Int) ∧ ∃ ao c, v1 = .slice ao x.length c ∧ Bs w ao c x
theorem rread_ok (q : Option Addr) (c : Nat) (b : List UInt8) (i : Nat) (w : World) (hb : Bs w q c b) (hl : b.length ≤ 1000000) (hi : i ≤ b.length) :
   Ct Tryz.prog 31 #[.slice q b.length c, .int .i64 (i : Int)] w (fun v w' => RNextR w' i v (rec1 (b.drop i)) ∧ Ext w w') := by
 refine Ct.enter [(0, .slice q b.length c), (1, .int .i64 (i : Int))] Tryz.func31 rfl rfl rfl rfl ?_
 obtain ⟨hd, hp0, hp1⟩ := rec1_parts b i hi
 obtain ⟨n, hn⟩ : ∃ n, n = getV b i 4 := ⟨_, rfl⟩
 have hnl := getV_lt b i 4
 rw [← hn] at hnl hp0
 refine C.seq (C.region (W.assign rfl rfl (W.assign rfl rfl (W.assign rfl rfl (W.nil (At.thenCode (C.seq (C.region (W.move rfl rfl (W.move rfl rfl ?_))))))))))
 refine W.call Tryz.call60 rfl (Words.RGet32_ok q c b i _ hb (by omega) (by omega)) rfl ?_
 rintro v15 w15 ⟨rfl, rfl⟩
 rw [← hn]
 refine W.move rfl rfl (W.extract rfl rfl rfl (W.extract rfl rfl rfl (W.assign rfl rfl (W.assign rfl rfl (W.nil (At.thenCode (C.seq (C.seq (C.region (W.move rfl rfl (W.neqI rfl rfl rfl ?_)))))))))))
 refine W.move rfl rfl ?_
 refine W.splitD (fun g20 => ?_) (fun g20 => ?_)
 refine W.skips rfl rfl rfl rfl rfl rfl (W.skips rfl rfl rfl rfl rfl rfl (W.skips rfl rfl rfl rfl rfl rfl (W.skips rfl rfl rfl rfl rfl rfl (W.skips rfl rfl rfl rfl rfl rfl (W.skips rfl rfl rfl rfl rfl rfl (W.pickT rfl rfl rfl (W.move rfl rfl (W.skips rfl rfl rfl rfl rfl rfl (W.skips rfl rfl rfl rfl rfl rfl (W.skips rfl rfl rfl rfl rfl rfl (W.skips rfl rfl rfl rfl rfl rfl ?_)))))))))))
 refine W.skips rfl rfl rfl rfl rfl rfl (W.skips rfl rfl rfl rfl rfl rfl (W.skips rfl rfl rfl rfl rfl rfl (W.skips rfl rfl rfl rfl rfl rfl (W.skips rfl rfl rfl rfl rfl rfl (W.pickT rfl rfl rfl (W.nil (At.thenCode ?_)))))))
 refine C.condT rfl ?_
 refine C.seq (C.region (W.move rfl rfl (W.assign rfl rfl (W.assign rfl rfl (W.assign rfl rfl (W.nil (At.thenCode (C.ret (At.thenRet ?_)))))))))
 refine At.ret3 Tryz.results31 rfl rfl rfl ?_
 have hnone : rec1 (b.drop i) = none := by unfold rec1; rw [if_pos (by have := hp1 g20; omega)]
 rw [hnone]
 exact ⟨⟨_, _, rfl, fun x hx => by cases hx⟩, Ext.refl _⟩
 have hE0 : getE b i 4 = 0 := by simpa using g20
 obtain ⟨hi4, hnv⟩ := hp0 hE0
 refine W.wants rfl rfl rfl rfl (W.move rfl rfl (W.wants rfl rfl rfl rfl (W.lenS rfl Tryz.underlying22 rfl (W.wants rfl rfl rfl rfl (W.move rfl rfl (W.wants rfl rfl rfl rfl ?_))))))
 refine W.subI rfl rfl (by omega) rfl ?_
 refine W.wants rfl rfl rfl rfl ?_
 refine W.subI rfl rfl (by omega) rfl ?_
 refine W.wants rfl rfl rfl rfl (W.lssI rfl rfl rfl (W.pickF rfl rfl rfl (W.move rfl rfl ?_)))
 refine W.splitD (fun g28 => ?_) (fun g28 => ?_)
 refine W.skips rfl rfl rfl rfl rfl rfl (W.skips rfl rfl rfl rfl rfl rfl (W.skips rfl rfl rfl rfl rfl rfl (W.skips rfl rfl rfl rfl rfl rfl (W.skips rfl rfl rfl rfl rfl rfl (W.skips rfl rfl rfl rfl rfl rfl (W.skips rfl rfl rfl rfl rfl rfl (W.skips rfl rfl rfl rfl rfl rfl (W.skips rfl rfl rfl rfl rfl rfl (W.pickT rfl rfl rfl (W.nil (At.thenCode ?_)))))))))))
 refine C.condT rfl ?_
 refine C.seq (C.region (W.move rfl rfl (W.assign rfl rfl (W.assign rfl rfl (W.assign rfl rfl (W.nil (At.thenCode (C.ret (At.thenRet ?_)))))))))
 refine At.ret3 Tryz.results31 rfl rfl rfl ?_
 have hnone : rec1 (b.drop i) = none := by unfold rec1; rw [if_pos (by omega)]
 rw [hnone]
 exact ⟨⟨_, _, rfl, fun x hx => by cases hx⟩, Ext.refl _⟩
 have hE0 : getE b i 4 = 0 := by simpa using g20
 obtain ⟨hi4, hnv⟩ := hp0 hE0
 refine W.wants rfl rfl rfl rfl (W.move rfl rfl (W.wants rfl rfl rfl rfl (W.lenS rfl Tryz.underlying22 rfl (W.wants rfl rfl rfl rfl (W.move rfl rfl (W.wants rfl rfl rfl rfl ?_))))))
 refine W.subI rfl rfl (by omega) rfl ?_
 refine W.wants rfl rfl rfl rfl ?_
 refine W.subI rfl rfl (by omega) rfl ?_
 refine W.wants rfl rfl rfl rfl ?_
 refine W.convIN (M := 18446744073709551616) rfl Tryz.underlying3 Tryz.underlying83 rfl rfl (by omega) rfl ?_
 refine W.wants rfl rfl rfl rfl (W.move rfl rfl (W.wants rfl rfl rfl rfl ?_))
 refine W.convU (M := 18446744073709551616) rfl Tryz.underlying101 Tryz.underlying83 rfl rfl (by omega) rfl ?_
 refine W.wants rfl rfl rfl rfl ?_
 refine W.lssU rfl rfl rfl ?_
 refine W.pickF rfl rfl rfl (W.nil (At.thenCode ?_))
 refine C.condD rfl (fun c38 => ?_) (fun c38 => ?_)
 refine C.seq (C.region (W.move rfl rfl (W.assign rfl rfl (W.assign rfl rfl (W.assign rfl rfl (W.nil (At.thenCode (C.ret (At.thenRet ?_)))))))))
 refine At.ret3 Tryz.results31 rfl rfl rfl ?_
 have hnone : rec1 (b.drop i) = none := by unfold rec1; rw [if_neg (by omega), if_pos (by omega)]
 rw [hnone]
 exact ⟨⟨_, _, rfl, fun x hx => by cases hx⟩, Ext.refl _⟩
 have hn12 : i + 12 + n ≤ b.length := by omega
 obtain ⟨x, hx⟩ : ∃ x, x = ((b.drop i).drop 12).take n := ⟨_, rfl⟩
 have hx' : x = (b.drop (i + 12)).take n := by rw [hx, List.drop_drop]
 have hxl : x.length = n := by rw [hx', List.length_take, List.length_drop]; omega
 have hs8 := sum8_length x
 have hsl := shaV_length x
 have hrec : rec1 (b.drop i) = if sum8 x = (b.drop (i + 4)).take 8 then some x else none := by
   unfold rec1
   rw [if_neg (by omega), if_neg (by omega), ← hnv, ← hx, List.drop_drop]
 refine C.skip (At.thenCode (C.seq (C.region (W.move rfl rfl ?_))))
 refine W.addI rfl rfl (by omega) rfl ?_
 refine W.move rfl rfl ?_
 refine W.convI rfl Tryz.underlying101 Tryz.underlying3 (by omega) rfl ?_
 refine W.addI rfl rfl (by omega) rfl ?_
 refine W.assign rfl rfl (W.nil (At.thenCode (C.seq (C.region (W.move rfl rfl (W.move rfl rfl ?_))))))
 refine W.addI rfl rfl (by omega) rfl ?_
 refine W.move rfl rfl ?_
 refine W.slice (lo := i + 12) (hi := i + 12 + n) E8 Tryz.underlying22 rfl hb (.inr ⟨_, .i64, rfl, look_eq rfl (iV (by omega))⟩) (.inr ⟨_, .i64, rfl, look_eq rfl (iV (by omega))⟩) (by omega) hn12 rfl ?_
 intro ao49 c49 hS49 hb49
 have hS49' : Bs w ao49 c49 x := by
   have := Bs.part (by omega) hn12 hS49
   rwa [Nat.add_sub_cancel_left, ← hx'] at this
 rw [Nat.add_sub_cancel_left, ← hxl]
 refine W.appendB (ys := x) (xs := []) (base := w.heap.size) E8 Tryz.underlying22 rfl rfl (Ow.nil _ _ _) hS49' (by simp; omega) (Nat.le_refl _) rfl ?_
 rw [List.nil_append]
 intro v50 w50 ho50 hg50 _
 have hX50 : Ext w w50 := (Chg.of_grown hg50).mono fun k hk => by cases hk
 obtain ⟨a50, c50, rfl, hS50, _⟩ := ownsRow_form ho50
 refine W.assign rfl rfl (W.nil (At.thenCode (C.seq (C.region (W.move rfl rfl ?_)))))
 refine W.call Tryz.call61 rfl (RSha.RSha_ok a50 c50 x _ hS50 (by omega)) rfl ?_
 rintro v52 w52 ⟨rfl, hX52⟩
 refine W.alloc (z := .agg (List.replicate 32 (byteV 0)).toArray) (List.replicate 32 (byteV 0)) (by kernel_rfl) rfl rfl ?_
 intro g11 w11 hg11 hX11 hB11
 refine W.storeA ((shaV x).map byteV) rfl rfl hB11 (by rw [List.length_map, hsl]; rfl) (by rw [List.length_map, hsl]; kernel_rfl) (bytes_oneCell _) ?_
 intro w12 hc12 hB12
 have hs52 := hX52.size
 have hX12 : Ext w50 w12 := (hX52.ext hX11).news hc12 fun k hk => Or.inr (by omega)
 have hXb := hX50.ext hX12
 refine W.nil (At.thenCode (C.seq ?_))
 refine C.regionAny 15 (E_ (.slice a50 x.length c50) :: E_ (.int .i64 ((i : Int) + 12 + (n : Int))) :: E_ (.slice (some ⟨g11, 0, none⟩) 8 32) :: E_ (strV (sum8 x)) :: E_ (.slice q b.length c) :: E_ (.int .i64 (i : Int)) :: E_ (.int .i64 ((i : Int) + 4)) :: E_ (.int .i64 (i : Int)) :: E_ (.int .i64 ((i : Int) + 12)) :: (fun v w => Rep w v ((b.drop (i + 4)).take 8)) :: E_ (strV ((b.drop (i + 4)).take 8)) :: E_ (.bool (decide (sum8 x = (b.drop (i + 4)).take 8))) :: E_ (.slice a50 x.length c50) :: E_ (.int .i64 ((i : Int) + 12 + (n : Int))) :: E_ (.bool (decide (sum8 x = (b.drop (i + 4)).take 8))) :: []) [(0, .slice q b.length c), (1, .int .i64 (i : Int)), (9, .int .i64 ((i : Int) + 12 + (n : Int))), (10, .slice a50 x.length c50), (11, .pointer (some ⟨g11, 0, none⟩))] [] (sc rfl (sc rfl (sc (look_eq rfl (by rw [hxl])) (sc rfl (sc rfl (Sub.nil)))))) (Sub.nil) (sc rfl (sc rfl (sc rfl (sc rfl (sc rfl (Sub.nil)))))) (by kernel_rfl) rfl rfl rfl (sN (sN (sN (sN (sN (sN (sN (sN (sN (sM (fun _ _ _ h g => Rep.ext h g) (sN (sN (sN (sN (sN (trivial)))))))))))))))) ?_ ?_
 refine And.intro (mB rfl rfl (fun _ => rfl) rfl) ?_
 refine And.intro (mB rfl rfl (fun _ => rfl) rfl) ?_
 refine And.intro ?_ ?_
 intro L_ wr hX_ hs_ hf_ hd_
 refine W.s1 (hs_ 11 _ rfl) ?_
 refine W.sliceAH (m := 8) X8 Tryz.underlying43 rfl rfl (by decide) (by decide) rfl ?_
 exact W.e0 rfl
 refine And.intro ?_ ?_
 intro L_ wr hX_ hs_ hf_ hd_
 obtain ⟨_, e2, rfl⟩ := hd_ 2 rfl
 refine W.s1 (e2 _ rfl) ?_
 have h8 := sum8_bs (hB12.ext hX_)
 refine W.bytesStr Tryz.underlying22 Tryz.underlying5 Tryz.underlying9 (by rw [hs8]; rfl) h8 rfl ?_
 exact W.e0 rfl
 refine And.intro (mB rfl rfl (fun _ => rfl) rfl) ?_
 refine And.intro (mB rfl rfl (fun _ => rfl) rfl) ?_
 refine And.intro ?_ ?_
 intro L_ wr hX_ hs_ hf_ hd_
 obtain ⟨_, e5, rfl⟩ := hd_ 5 rfl
 refine W.s1 (e5 _ rfl) ?_
 refine W.addI rfl rfl (by omega) rfl ?_
 exact W.e0 rfl
 refine And.intro (mB rfl rfl (fun _ => rfl) rfl) ?_
 refine And.intro ?_ ?_
 intro L_ wr hX_ hs_ hf_ hd_
 obtain ⟨_, e7, rfl⟩ := hd_ 7 rfl
 refine W.s1 (e7 _ rfl) ?_
 refine W.addI rfl rfl (by omega) rfl ?_
 exact W.e0 rfl
 refine And.intro ?_ ?_
 intro L_ wr hX_ hs_ hf_ hd_
 obtain ⟨_, e4, rfl⟩ := hd_ 4 rfl
 obtain ⟨_, e6, rfl⟩ := hd_ 6 rfl
 obtain ⟨_, e8, rfl⟩ := hd_ 8 rfl
 refine W.s3 (e4 _ rfl) (e6 _ rfl) (e8 _ rfl) ?_
 refine W.slice (lo := i + 4) (hi := i + 12) E8 Tryz.underlying22 rfl ((hb.ext hXb).ext hX_) (.inr ⟨_, .i64, rfl, look_eq rfl (iV (by omega))⟩) (.inr ⟨_, .i64, rfl, look_eq rfl (iV (by omega))⟩) (by omega) (by omega) rfl ?_
 intro ao62 c62 hS62 _
 exact W.e0 ⟨ao62, c62, by rw [List.length_take, List.length_drop, Nat.min_eq_left (by omega), show i + 12 - (i + 4) = 8 by omega], by have := Bs.part (by omega) (by omega) hS62; rwa [show i + 12 - (i + 4) = 8 by omega] at this⟩
 refine And.intro ?_ ?_
 intro L_ wr hX_ hs_ hf_ hd_
 obtain ⟨v9, e9, r9⟩ := hd_ 9 rfl
 obtain ⟨a9, c9, rfl, hb9⟩ := r9
 refine W.s1 (e9 _ rfl) ?_
 refine W.bytesStr Tryz.underlying22 Tryz.underlying5 Tryz.underlying9 rfl hb9 rfl ?_
 exact W.e0 rfl
 refine And.intro ?_ ?_
 intro L_ wr hX_ hs_ hf_ hd_
 obtain ⟨_, e3, rfl⟩ := hd_ 3 rfl
 obtain ⟨_, e10, rfl⟩ := hd_ 10 rfl
 refine W.s2 (e3 _ rfl) (e10 _ rfl) ?_
 refine W.eqlStr rfl rfl rfl ?_
 exact W.e0 rfl
 refine And.intro ?_ ?_
 intro L_ wr hX_ hs_ hf_ hd_
 obtain ⟨_, e0, rfl⟩ := hd_ 0 rfl
 exact W.s1 (e0 _ rfl) (W.assign rfl rfl (W.e0 rfl))
 refine And.intro ?_ ?_
 intro L_ wr hX_ hs_ hf_ hd_
 obtain ⟨_, e1, rfl⟩ := hd_ 1 rfl
 exact W.s1 (e1 _ rfl) (W.assign rfl rfl (W.e0 rfl))
 refine And.intro ?_ ?_
 intro L_ wr hX_ hs_ hf_ hd_
 obtain ⟨_, e11, rfl⟩ := hd_ 11 rfl
 exact W.s1 (e11 _ rfl) (W.assign rfl rfl (W.e0 rfl))
 exact trivial
 intro L_ wr hX7 hs_ hv_
 obtain ⟨_, e12, rfl⟩ := hv_ 12 (by decide)
 obtain ⟨_, e13, rfl⟩ := hv_ 13 (by decide)
 obtain ⟨_, e14, rfl⟩ := hv_ 14 (by decide)
 refine W.weaken (l' := [(4, _), (5, _), (6, _), (0, _), (1, _), (9, _), (10, _), (11, _)]) (sc (e12 _ rfl) (sc (e13 _ rfl) (sc (e14 _ rfl) (sc (hs_ _ _ rfl) (sc (hs_ _ _ rfl) (sc (hs_ _ _ rfl) (sc (hs_ _ _ rfl) (sc (hs_ _ _ rfl) (Sub.nil))))))))) ?_
 refine W.nil (At.thenCode (C.ret ?_))
 refine At.ret3 Tryz.results31 rfl rfl rfl ?_
 rw [hrec]
 by_cases he : sum8 x = (b.drop (i + 4)).take 8
 rw [if_pos he, decide_eq_true he]
 refine ⟨⟨_, _, rfl, fun y hy => ?_⟩, hXb.ext hX7⟩
 obtain rfl := Option.some.inj hy
 exact ⟨by rw [hxl], _, _, rfl, (hS50.ext hX12).ext hX7⟩
 rw [if_neg he, decide_eq_false he]
 exact ⟨⟨_, _, rfl, fun y hy => by cases hy⟩, hXb.ext hX7⟩
theorem RSt.cell {F : Nat → Prop} {w w' : World} {g dg : Nat} {s : Bag} {o o' : Option Nat} {p : Nat} (h : RSt w F g dg s o) (c : Chg (fun k => k = g) w w') (hB : ∀ v, Bk w g [.pointer (some ⟨dg, 0, none⟩), v, .int .i64 (s.past : Int), .int .i64 (owedI o)] → Bk w' g [.pointer (some ⟨dg, 0, none⟩), v, .int .i64 (p : Int), .int .i64 (owedI o')])
   (hp : p ≤ 1099511627776) (ho : ∀ n, o' = some n → n ≤ 1099511627776) : RSt w' F g dg ⟨s.l, p⟩ o' := by
 obtain ⟨v, h1, h2, h3⟩ := h.out
 obtain ⟨cs, hw, he⟩ := h2
 exact ⟨⟨v, hB v h1, ⟨cs, ownsRow_chg hw c (fun k hk => (h3 k hk).2), fun i hi => rBat.chg (he i hi) (c.mono fun k hk => .inl (.inr hk))⟩, h3⟩, h.own, fun k hk => Nat.lt_of_lt_of_le (h.lt k hk) c.size, h.ok.1, hp, ho⟩
structure RKept (F Fd : Nat → Prop) (g dg : Nat) (rv : Int) (B : Box) (w w' : World) : Prop where
  out : ∃ Fd' : Nat → Prop, Dk w' Fd' dg rv B.D ∧ (∀ k, Fd' k → Fd k ∨ w.heap.size ≤ k)
  st : RSt w' F g dg B.s B.owed
  chg : Chg (fun k => k = g ∨ Fd k) w w'
theorem RKept.sets {F Fd : Nat → Prop} {g dg : Nat} {rv : Int} {B : Box} {w w' : World} (h : RKept F Fd g dg rv B w w') (hlt : ∀ k, F k → k < w.heap.size) (hd : ∀ k, F k → ¬ Fd k) : ∃ Fd' : Nat → Prop, Dk w' Fd' dg rv B.D ∧ (∀ k, Fd' k → Fd k ∨ w.heap.size ≤ k) ∧ (∀ k, F k → ¬ Fd' k) := by
 obtain ⟨Fd', h1, h2⟩ := h.out
 refine ⟨Fd', h1, h2, fun k hk hk' => ?_⟩
 rcases h2 k hk' with h3 | h3
 exact hd k hk h3
 have := hlt k hk; omega
theorem RKept.then {F Fd Fd1 : Nat → Prop} {g dg : Nat} {rv : Int} {B' : Box} {w w1 w' : World} (hs : w.heap.size ≤ w1.heap.size) (hc : Chg (fun k => k = g ∨ Fd k) w w1) (h1 : ∀ k, Fd1 k → Fd k ∨ w.heap.size ≤ k) (h : RKept F Fd1 g dg rv B' w1 w') : RKept F Fd g dg rv B' w w' := by
 obtain ⟨Fd', h2, h3⟩ := h.out
 refine ⟨⟨Fd', h2, fun k hk => ?_⟩, h.st, hc.news h.chg fun k hk => ?_⟩
 rcases h3 k hk with h4 | h4
 exact h1 k h4
 exact Or.inr (by omega)
 rcases hk with hk | hk
 exact Or.inl (Or.inl hk)
 rcases h1 k hk with h4 | h4
 exact Or.inl (Or.inr h4)
 exact Or.inr h4
theorem RKept.cut {F Fd : Nat → Prop} {g dg : Nat} {rv : Int} {D : Dsk} {s : Bag} {o : Option Nat} {w w1 w2 : World} {n : Int} (hS : RSt w F g dg s o) (hd : ∀ k, F k → ¬ Fd k) (hx : Ext w w1) (hD : Dk w2 (Grown Fd w1 w2) dg rv D) (hC : Chg Fd w1 w2) : RKept F Fd g dg rv ⟨D, s, o⟩ w w2 := by
 have hs := hx.size
 exact ⟨⟨_, hD, fun k hk => hk.imp id fun h => Nat.le_trans hs h.1⟩, (hS.ext hx).chg hC hd, (hx.mono fun _ c => c.elim).trans (hC.mono fun k hk => Or.inr hk)⟩
theorem RKept.owe {F Fd : Nat → Prop} {g dg : Nat} {rv : Int} {D : Dsk} {s : Bag} {o o' : Option Nat} {w w1 w2 : World} (hd : ∀ k, F k → ¬ Fd k) (hlt : ∀ k, F k → k < w.heap.size) (h : RKept F Fd g dg rv ⟨D, s, o⟩ w w1) (c : Chg (fun k => k = g) w1 w2)
   (hB : ∀ v, Bk w1 g [.pointer (some ⟨dg, 0, none⟩), v, .int .i64 (s.past : Int), .int .i64 (owedI o)] → Bk w2 g [.pointer (some ⟨dg, 0, none⟩), v, .int .i64 (s.past : Int), .int .i64 (owedI o')]) (ho : ∀ n, o' = some n → n ≤ 1099511627776) : RKept F Fd g dg rv ⟨D, s, o'⟩ w w2 := by
 obtain ⟨Fd', h1, h2, h3⟩ := h.sets hlt hd
 have hok := h.st.ok.2.1
 exact ⟨⟨Fd', h1.chg c fun k hk hkg => by subst hkg; exact h3 _ h.st.own hk, h2⟩, by have := h.st.cell (p := s.past) c hB hok ho; exact this, h.chg.trans (c.mono fun k hk => Or.inl hk)⟩
theorem rundo_ok (F Fd : Nat → Prop) (g dg : Nat) (rv : Int) (D : Dsk) (s : Bag) (n : Nat) (e : Int) (w : World) (hS : RSt w F g dg s none) (hD : Dk w Fd dg rv D) (hd : ∀ k, F k → ¬ Fd k) (hn : n ≤ 1099511627776) :
   Ct Tryz.prog 76 #[.pointer (some ⟨g, 0, none⟩), .int .i64 (n : Int), .int .i64 e] w (fun v w' => v = .int .i64 e ∧ RKept F Fd g dg rv (settleB ⟨D, s, some n⟩) w w') := by
 obtain ⟨aK, cK, h1, _, _, _⟩ := hS.form
 have hset : settleB ⟨D, s, some n⟩ = ⟨cutD D (n : Nat), s, if cutE D (n : Nat) = 0 then none else some n⟩ := rfl
 refine Ct.enter [(0, .pointer (some ⟨g, 0, none⟩)), (1, .int .i64 (n : Int)), (2, .int .i64 e)] Tryz.func76 rfl rfl rfl rfl ?_
 refine C.seq (C.region (W.assign rfl rfl (W.nil (At.thenCode (C.seq (C.seq (C.region (W.move rfl rfl (W.nilCheck rfl rfl (W.fieldB (off := 0) (size := 1) (t := 27) (Fld.of (by kernel_rfl)) rfl rfl rfl ?_))))))))))
 refine W.loadB (v := .pointer (some ⟨dg, 0, none⟩)) rfl Tryz.underlying27 rfl h1 rfl rfl ?_
 refine W.move rfl rfl ?_
 refine W.call Tryz.call33 rfl (Disk.RCut_ok Fd dg rv D n _ hD) rfl ?_
 rintro v12 w12 ⟨rfl, hD12, hC12⟩
 have hK := RKept.cut (n := (n : Int)) hS hd (Ext.refl _) hD12 hC12
 have h1b := h1.chg hC12 (hd g hS.own)
 refine W.neqI rfl rfl rfl (W.nil (At.thenCode ?_))
 refine C.condD rfl (fun c13 => ?_) (fun c13 => ?_)
 refine C.region (W.move rfl rfl (W.move rfl rfl (W.nilCheck rfl rfl (W.fieldB (off := 3) (size := 1) (t := 3) (Fld.of (by kernel_rfl)) rfl rfl rfl ?_))))
 refine W.store1 rfl rfl rfl h1b (by simp) (by kernel_rfl) ?_
 intro wz hcz hBz
 refine W.nil (At.thenCode (C.seq (C.region (W.move rfl rfl (W.assign rfl rfl (W.nil (At.thenCode (C.ret ?_))))))))
 refine At.ret1 Tryz.results76 rfl ?_
 rw [hset]
 first
 | (have hce : cutE D (n : Nat) = 0 := by omega
    rw [if_pos hce]
    exact ⟨rfl, hK⟩)
 | (have hce : ¬ cutE D (n : Nat) = 0 := by omega
    rw [if_neg hce]
    refine ⟨rfl, hK.owe hd hS.lt hcz (fun v hv => ?_) (fun m hm => by obtain rfl := Option.some.inj hm; exact hn)⟩
    have e1 := Bk.same hv h1b
    simp only [List.cons.injEq, and_true, true_and] at e1
    obtain rfl := e1
    exact hBz)
 refine C.skip (At.thenCode (C.seq (C.region (W.move rfl rfl (W.assign rfl rfl (W.nil (At.thenCode (C.ret ?_))))))))
 refine At.ret1 Tryz.results76 rfl ?_
 rw [hset]
 first
 | (have hce : cutE D (n : Nat) = 0 := by omega
    rw [if_pos hce]
    exact ⟨rfl, hK⟩)
 | (have hce : ¬ cutE D (n : Nat) = 0 := by omega
    rw [if_neg hce]
    refine ⟨rfl, hK.owe hd hS.lt hcz (fun v hv => ?_) (fun m hm => by obtain rfl := Option.some.inj hm; exact hn)⟩
    have e1 := Bk.same hv h1b
    simp only [List.cons.injEq, and_true, true_and] at e1
    obtain rfl := e1
    exact hBz)
theorem rkeep_ok (F Fd : Nat → Prop) (g dg : Nat) (rv : Int) (B : Box) (ax : Option Addr) (cx : Nat) (x : List UInt8) (w : World) (hS : RSt w F g dg B.s B.owed) (hD : Dk w Fd dg rv B.D) (hd : ∀ k, F k → ¬ Fd k) (hx : Bs w ax cx x) (hxn : ∀ ad, ax = some ad → x ≠ [] → ¬ (ad.block = g ∨ Fd ad.block)) (hxl : x.length ≤ 1000000) (hDl : B.D.bs.length ≤ 1000000000) :
   Ct Tryz.prog 42 #[.pointer (some ⟨g, 0, none⟩), .slice ax x.length cx] w (fun v w' => v = .int .i64 (keepE B x : Int) ∧ RKept F Fd g dg rv (keepB B x) w w') := by
 obtain ⟨aK, cK, h1, _, _, _⟩ := hS.form
 have hok := hS.ok.2.2
 refine Ct.enter [(0, .pointer (some ⟨g, 0, none⟩)), (1, .slice ax x.length cx)] Tryz.func42 rfl rfl rfl rfl ?_
 refine C.seq (C.region (W.assign rfl rfl (W.nil (At.thenCode (C.seq (C.seq (C.region (W.move rfl rfl (W.nilCheck rfl rfl (W.fieldB (off := 0) (size := 1) (t := 27) (Fld.of (by kernel_rfl)) rfl rfl rfl ?_))))))))))
 refine W.loadB (v := .pointer (some ⟨dg, 0, none⟩)) rfl Tryz.underlying27 rfl h1 rfl rfl ?_
 refine W.eqlPtr rfl rfl rfl rfl ?_
 refine W.eqv (v' := .bool false) (rfl) ?_
 refine W.nil (At.thenCode ?_)
 refine C.condF rfl ?_
 refine C.skip (At.thenCode (C.seq (C.seq (C.region (W.move rfl rfl (W.nilCheck rfl rfl (W.fieldB (off := 3) (size := 1) (t := 3) (Fld.of (by kernel_rfl)) rfl rfl rfl ?_)))))))
 refine W.loadB (v := .int .i64 (owedI B.owed)) rfl Tryz.underlying3 rfl h1 rfl rfl ?_
 refine W.geqI rfl rfl rfl (W.nil (At.thenCode ?_))
 refine C.mid (X := Nat) (fun x_ => [(0, .pointer (some ⟨g, 0, none⟩)), (1, .slice ax x.length cx)]) (fun x_ w14 => settleE B = 0 ∧ RKept F Fd g dg rv (settleB B) w w14) ?_ ?_
 refine C.condD rfl (fun c17 => ?_) (fun c17 => ?_)
 obtain ⟨n, ho⟩ : ∃ n, B.owed = some n := by
   cases ho : B.owed with
   | none => rw [ho] at c17; exact absurd c17 (by decide)
   | some n => exact ⟨n, rfl⟩
 have hn := hok n ho
 have hset : settleB B = ⟨cutD B.D (n : Nat), B.s, if cutE B.D (n : Nat) = 0 then none else some n⟩ := by unfold settleB; rw [ho]
 have hsetE : settleE B = cutE B.D (n : Nat) := by unfold settleE; rw [ho]
 rw [ho] at h1 hS
 refine C.seq ?_
 refine C.regionAny 8 (E_ (.pointer (some ⟨g, 0, none⟩)) :: E_ (.pointer (some ⟨g, 0, none⟩)) :: E_ (.pointer (some ⟨g, 0, none⟩)) :: E_ (.pointer (some ⟨dg, 0, none⟩)) :: E_ (.pointer (some ⟨g, 0, none⟩)) :: E_ (.pointer (some ⟨g, 0, none⟩)) :: E_ (.pointer (some ⟨g, 3, none⟩)) :: E_ (.int .i64 (n : Int)) :: []) [(0, .pointer (some ⟨g, 0, none⟩)), (1, .slice ax x.length cx)] [] (sc rfl (sc rfl (Sub.nil))) (Sub.nil) (sc rfl (sc rfl (Sub.nil))) (by kernel_rfl) rfl rfl rfl (sN (sN (sN (sN (sN (sN (sN (sN (trivial))))))))) ?_ ?_
 refine And.intro (mB rfl rfl (fun _ => rfl) rfl) ?_
 refine And.intro ?_ ?_
 intro L_ wr hX_ hs_ hf_ hd_
 obtain ⟨_, e0, rfl⟩ := hd_ 0 rfl
 exact W.s1 (e0 _ rfl) (W.nilCheck rfl rfl (W.e0 rfl))
 refine And.intro ?_ ?_
 intro L_ wr hX_ hs_ hf_ hd_
 obtain ⟨_, e1, rfl⟩ := hd_ 1 rfl
 exact W.s1 (e1 _ rfl) (W.fieldB (off := 0) (size := 1) (t := 27) (Fld.of (by kernel_rfl)) rfl rfl rfl (W.e0 rfl))
 refine And.intro ?_ ?_
 intro L_ wr hX_ hs_ hf_ hd_
 obtain ⟨_, e2, rfl⟩ := hd_ 2 rfl
 refine W.s1 (e2 _ rfl) ?_
 refine W.loadB (v := .pointer (some ⟨dg, 0, none⟩)) rfl Tryz.underlying27 rfl (h1.ext hX_) rfl rfl ?_
 exact W.e0 rfl
 refine And.intro (mB rfl rfl (fun _ => rfl) rfl) ?_
 refine And.intro ?_ ?_
 intro L_ wr hX_ hs_ hf_ hd_
 obtain ⟨_, e4, rfl⟩ := hd_ 4 rfl
 exact W.s1 (e4 _ rfl) (W.nilCheck rfl rfl (W.e0 rfl))
 refine And.intro ?_ ?_
 intro L_ wr hX_ hs_ hf_ hd_
 obtain ⟨_, e5, rfl⟩ := hd_ 5 rfl
 exact W.s1 (e5 _ rfl) (W.fieldB (off := 3) (size := 1) (t := 3) (Fld.of (by kernel_rfl)) rfl rfl rfl (W.e0 rfl))
 refine And.intro ?_ ?_
 intro L_ wr hX_ hs_ hf_ hd_
 obtain ⟨_, e6, rfl⟩ := hd_ 6 rfl
 refine W.s1 (e6 _ rfl) ?_
 refine W.loadB (v := .int .i64 (n : Int)) rfl Tryz.underlying3 rfl (h1.ext hX_) rfl rfl ?_
 exact W.e0 rfl
 exact trivial
 intro L_ wr hX4 hs_ hv_
 obtain ⟨_, e3, rfl⟩ := hv_ 3 (by decide)
 obtain ⟨_, e7, rfl⟩ := hv_ 7 (by decide)
 refine W.weaken (l' := [(21, _), (25, _), (0, _), (1, _)]) (sc (e3 _ rfl) (sc (e7 _ rfl) (sc (hs_ _ _ rfl) (sc (hs_ _ _ rfl) (Sub.nil))))) ?_
 refine W.call Tryz.call33 rfl (Disk.RCut_ok Fd dg rv B.D n _ (hD.ext hX4)) rfl ?_
 rintro v26 w26 ⟨rfl, hD26, hC26⟩
 have hK26 := RKept.cut (n := (n : Int)) hS hd hX4 hD26 hC26
 have h1b := (h1.ext hX4).chg hC26 (hd g hS.own)
 refine W.assign rfl rfl (W.nil (At.thenCode (C.seq (C.seq (C.region (W.move rfl rfl (W.neqI rfl rfl rfl (W.nil (At.thenCode ?_)))))))))
 refine C.condD rfl (fun c28 => ?_) (fun c28 => ?_)
 have hce : ¬ cutE B.D (n : Nat) = 0 := by omega
 refine C.seq (C.region (W.move rfl rfl (W.assign rfl rfl (W.nil (At.thenCode (C.ret (At.thenRet (At.thenRet ?_))))))))
 refine At.ret1 Tryz.results42 rfl ?_
 have hke : keepE B x = settleE B := by unfold keepE; rw [if_neg (by rw [hsetE]; exact hce)]
 have hkb : keepB B x = settleB B := by unfold keepB; rw [if_neg (by rw [hsetE]; exact hce)]
 rw [hke, hkb, hsetE, hset, if_neg hce]
 exact ⟨rfl, hK26⟩
 have hce : cutE B.D (n : Nat) = 0 := by omega
 refine C.skip (At.thenCode (C.region (W.move rfl rfl (W.nilCheck rfl rfl (W.fieldB (off := 3) (size := 1) (t := 3) (Fld.of (by kernel_rfl)) rfl rfl rfl ?_)))))
 refine W.store1 rfl rfl rfl h1b (by simp) (by kernel_rfl) ?_
 intro wz hcz hBz
 refine W.nil ?_
 refine At.thenMid (0) (sc rfl (sc rfl (Sub.nil))) (show settleE B = 0 ∧ RKept F Fd g dg rv (settleB B) w _ from ?_)
 refine ⟨by rw [hsetE]; exact hce, ?_⟩
 rw [hset, if_pos hce]
 refine hK26.owe hd hS.lt hcz (fun v hv => ?_) (fun m hm => by cases hm)
 have e1 := Bk.same hv h1b
 simp only [List.cons.injEq, and_true, true_and] at e1
 obtain rfl := e1
 exact hBz
 have ho : B.owed = none := by
   cases ho : B.owed with
   | none => rfl
   | some n => rw [ho] at c17; exact absurd (show (0 : Int) ≤ owedI (some n) from Int.natCast_nonneg n) (by omega)
 refine C.skip ?_
 refine At.thenMid (0) (sc rfl (sc rfl (Sub.nil))) (show settleE B = 0 ∧ RKept F Fd g dg rv (settleB B) w _ from ?_)
 refine ⟨by unfold settleE; rw [ho], ?_⟩
 rw [show settleB B = B by unfold settleB; rw [ho]]
 exact ⟨⟨Fd, hD, fun k hk => Or.inl hk⟩, hS, Chg.refl _ _⟩
 rintro zz w14 hI_
 replace hI_ : settleE B = 0 ∧ RKept F Fd g dg rv (settleB B) w w14 := hI_
 obtain ⟨hse, hK14⟩ := hI_
 refine C.weaken (l' := [(0, .pointer (some ⟨g, 0, none⟩)), (1, .slice ax x.length cx)]) (sc rfl (sc rfl (Sub.nil))) ?_
 have hke : keepE B x = putE (settleB B).D x := by unfold keepE; rw [if_pos hse]
 have hkb : keepB B x = putB (settleB B) x := by unfold keepB; rw [if_pos hse]
 have how := settleB_owed hse
 have hss := settleB_s B
 have hs14 := hK14.chg.size
 obtain ⟨Fd1, hD14, hF14, hd14⟩ := hK14.sets hS.lt hd
 have hS14 := hK14.st
 have hx14 : Bs w14 ax cx x := Sl.chg hx hK14.chg fun ad e hne => hxn ad e (fun h => hne (by rw [h]; rfl))
 have hDl1 := settle_len B
 have hC14 := hK14.chg
 obtain ⟨B1, hB1⟩ : ∃ B1, B1 = settleB B := ⟨_, rfl⟩
 rw [← hB1] at hke hkb how hss hD14 hS14 hDl1
 obtain ⟨D1, s1, o1⟩ := B1
 simp only at how hD14 hS14 hDl1 hke hss
 subst how
 obtain ⟨aK1, cK1, h11, _, _, _⟩ := hS14.form
 refine C.seq (C.region (W.move rfl rfl (W.nilCheck rfl rfl (W.fieldB (off := 0) (size := 1) (t := 27) (Fld.of (by kernel_rfl)) rfl rfl rfl ?_))))
 refine W.loadB (v := .pointer (some ⟨dg, 0, none⟩)) rfl Tryz.underlying27 rfl h11 rfl rfl ?_
 refine W.call Tryz.call23 rfl (Disk.RBytes_ok Fd1 dg rv D1 _ hD14) rfl ?_
 rintro v37 w37 ⟨⟨a37, c37, rfl, _⟩, hX37⟩
 refine W.lenS rfl Tryz.underlying22 rfl (W.assign rfl rfl (W.nil (At.thenCode (C.seq ?_))))
 refine C.regionAny 6 (E_ (.pointer (some ⟨g, 0, none⟩)) :: E_ (.pointer (some ⟨g, 0, none⟩)) :: E_ (.pointer (some ⟨g, 0, none⟩)) :: E_ (.pointer (some ⟨dg, 0, none⟩)) :: E_ (.slice ax x.length cx) :: (fun v w => ∃ ao c', v = .slice ao (recB x).length c' ∧ Bs w ao c' (recB x) ∧ ∀ ad, ao = some ad → w37.heap.size ≤ ad.block) :: []) [(0, .pointer (some ⟨g, 0, none⟩)), (1, .slice ax x.length cx), (6, .int .i64 (D1.bs.length : Int))] [] (sc rfl (sc rfl (sc rfl (Sub.nil)))) (Sub.nil) (sc rfl (sc rfl (sc rfl (Sub.nil)))) (by kernel_rfl) rfl rfl rfl (sN (sN (sN (sN (sN (sM (fun _ _ _ ⟨a, c, e, h, q⟩ g => ⟨a, c, e, Sl.ext h g, q⟩) (trivial))))))) ?_ ?_
 refine And.intro (mB rfl rfl (fun _ => rfl) rfl) ?_
 refine And.intro ?_ ?_
 intro L_ wr hX_ hs_ hf_ hd_
 obtain ⟨_, e0, rfl⟩ := hd_ 0 rfl
 exact W.s1 (e0 _ rfl) (W.nilCheck rfl rfl (W.e0 rfl))
 refine And.intro ?_ ?_
 intro L_ wr hX_ hs_ hf_ hd_
 obtain ⟨_, e1, rfl⟩ := hd_ 1 rfl
 exact W.s1 (e1 _ rfl) (W.fieldB (off := 0) (size := 1) (t := 27) (Fld.of (by kernel_rfl)) rfl rfl rfl (W.e0 rfl))
 refine And.intro ?_ ?_
 intro L_ wr hX_ hs_ hf_ hd_
 obtain ⟨_, e2, rfl⟩ := hd_ 2 rfl
 refine W.s1 (e2 _ rfl) ?_
 refine W.loadB (v := .pointer (some ⟨dg, 0, none⟩)) rfl Tryz.underlying27 rfl ((h11.ext hX37).ext hX_) rfl rfl ?_
 exact W.e0 rfl
 refine And.intro (mB rfl rfl (fun _ => rfl) rfl) ?_
 refine And.intro ?_ ?_
 intro L_ wr hX_ hs_ hf_ hd_
 obtain ⟨_, e4, rfl⟩ := hd_ 4 rfl
 refine W.s1 (e4 _ rfl) ?_
 refine W.call Tryz.call75 rfl (Mbx.rrecord_ok ax cx x _ ((hx14.ext hX37).ext hX_) hxl) rfl ?_
 rintro v44 w44 ⟨ho44, hX44⟩
 obtain ⟨a44, c44, rfl, hS44, hq44⟩ := ownsRow_form ho44
 exact W.e1 hX44 ⟨a44, c44, rfl, hS44, fun ad e => Nat.le_trans hX_.size (hq44 ad e)⟩
 exact trivial
 intro L_ wr hX9 hs_ hv_
 obtain ⟨_, e3, rfl⟩ := hv_ 3 (by decide)
 obtain ⟨v5, e5, r5⟩ := hv_ 5 (by decide)
 obtain ⟨a5, c5, rfl, hb5, hq5⟩ := r5
 refine W.weaken (l' := [(42, _), (44, _), (0, _), (1, _), (6, _)]) (sc (e3 _ rfl) (sc (e5 _ rfl) (sc (hs_ _ _ rfl) (sc (hs_ _ _ rfl) (sc (hs_ _ _ rfl) (Sub.nil)))))) ?_
 have hXr := hX37.ext hX9
 have hsr := hXr.size
 have hs37 := hX37.size
 refine W.call Tryz.call8 rfl (Disk.RAppend_ok Fd1 dg rv D1 a5 c5 (recB x) _ (hD14.ext hXr) hb5 (fun ad e _ hk => by have := hq5 ad e; have := hD14.lt _ hk; omega) (by rw [recB_length]; omega)) rfl ?_
 rintro v45 w45 ⟨rfl, hD45, hC45⟩
 have hs45 := hC45.size
 have hS45 := (hS14.ext hXr).chg hC45 hd14
 have hW45 : Chg (fun k => k = g ∨ Fd1 k) w14 w45 := (hXr.mono fun _ c => c.elim).trans (hC45.mono fun k hk => Or.inr hk)
 have hF45 : ∀ k, Grown Fd1 wr w45 k → Fd1 k ∨ w14.heap.size ≤ k := fun k hk => hk.imp id fun h => Nat.le_trans hsr h.1
 have hd45 : ∀ k, F k → ¬ Grown Fd1 wr w45 k := fun k hk hg => by
   rcases hF45 k hg with h | h
   exact hd14 k hk h
   have := hS14.lt k hk; omega
 have h1c := (h11.ext hXr).chg hC45 (hd14 g hS14.own)
 refine W.assign rfl rfl (W.nil (At.thenCode (C.seq (C.seq (C.region (W.move rfl rfl (W.neqI rfl rfl rfl (W.nil (At.thenCode ?_)))))))))
 refine C.condD rfl (fun c47 => ?_) (fun c47 => ?_)
 have hae : ¬ appE D1 (recB x) = 0 := by omega
 obtain ⟨hpe, hpd⟩ := putE_ne hae
 have hne : ¬ putE D1 x = 0 := by rw [hpe]; exact hae
 have hpb : putB ⟨D1, s1, none⟩ x = settleB ⟨putD D1 x, s1, some D1.bs.length⟩ := by unfold putB; rw [if_neg hne]
 rw [← hpd] at hD45
 refine C.seq (C.region (W.move rfl rfl (W.move rfl rfl (W.move rfl rfl ?_))))
 refine W.call Tryz.call76 rfl (Mbx.rundo_ok F _ g dg rv (putD D1 x) s1 D1.bs.length _ _ hS45 hD45 hd45 (by omega)) rfl ?_
 rintro v51 w51 ⟨rfl, hK51⟩
 rw [← hpb] at hK51
 refine W.assign rfl rfl (W.nil (At.thenCode (C.ret (At.thenRet ?_))))
 refine At.ret1 Tryz.results42 rfl ?_
 rw [hke, hkb, hpe]
 exact ⟨rfl, RKept.then hs14 hC14 hF14 (RKept.then (by omega) hW45 hF45 hK51)⟩
 have hae : appE D1 (recB x) = 0 := by omega
 obtain ⟨hpe, hpd⟩ := putE_eq hae
 refine C.skip (At.thenCode (C.seq (C.region (W.move rfl rfl (W.nilCheck rfl rfl (W.fieldB (off := 0) (size := 1) (t := 27) (Fld.of (by kernel_rfl)) rfl rfl rfl ?_))))))
 refine W.loadB (v := .pointer (some ⟨dg, 0, none⟩)) rfl Tryz.underlying27 rfl h1c rfl rfl ?_
 refine W.call Tryz.call77 rfl (Disk.RSync_ok (Grown Fd1 wr w45) dg rv (appD D1 (recB x)) _ hD45) rfl ?_
 rintro v56 w56 ⟨rfl, hD56, hC56⟩
 have hs56 := hC56.size
 rw [← hpd] at hD56
 rw [← hpe]
 have hS56 := hS45.chg hC56 hd45
 have hW56 : Chg (fun k => k = g ∨ Fd1 k) w14 w56 := hW45.news hC56 fun k hk => (hF45 k hk).imp (fun h => Or.inr h) id
 refine W.assign rfl rfl (W.nil (At.thenCode (C.seq (C.seq (C.region (W.move rfl rfl (W.neqI rfl rfl rfl (W.nil (At.thenCode ?_)))))))))
 refine C.condD rfl (fun c58 => ?_) (fun c58 => ?_)
 have hne : ¬ putE D1 x = 0 := by omega
 have hpb : putB ⟨D1, s1, none⟩ x = settleB ⟨putD D1 x, s1, some D1.bs.length⟩ := by unfold putB; rw [if_neg hne]
 refine C.seq (C.region (W.move rfl rfl (W.move rfl rfl (W.move rfl rfl ?_))))
 refine W.call Tryz.call76 rfl (Mbx.rundo_ok F _ g dg rv (putD D1 x) s1 D1.bs.length _ _ hS56 hD56 hd45 (by omega)) rfl ?_
 rintro v62 w62 ⟨rfl, hK62⟩
 rw [← hpb] at hK62
 refine W.assign rfl rfl (W.nil (At.thenCode (C.ret (At.thenRet ?_))))
 refine At.ret1 Tryz.results42 rfl ?_
 rw [hke, hkb]
 exact ⟨rfl, RKept.then hs14 hC14 hF14 (RKept.then (by omega) hW56 hF45 hK62)⟩
 have heq : putE D1 x = 0 := by omega
 have hpb : putB ⟨D1, s1, none⟩ x = ⟨putD D1 x, s1, none⟩ := by unfold putB; rw [if_pos heq]
 refine C.skip (At.thenCode (C.seq (C.region (W.assign rfl rfl (W.nil (At.thenCode (C.ret ?_)))))))
 refine At.ret1 Tryz.results42 rfl ?_
 rw [hke, hkb, heq, hpb]
 exact ⟨rfl, RKept.then hs14 hC14 hF14 ⟨⟨_, hD56, hF45⟩, hS56, hW56⟩⟩
end Go.Proofs.YthiijdbiikljpaaGreat.Mbx
namespace Go.Proofs.YthiijdbiikljpaaGreat.Law23
open Go Go.RowKit Go.Proofs.YthiijdbiikljpaaGreat.KW Go.Proofs.YthiijdbiikljpaaGreat.Words Go.Proofs.YthiijdbiikljpaaGreat.Sha Go.Proofs.YthiijdbiikljpaaGreat.RSha Go.Proofs.YthiijdbiikljpaaGreat.Grp Go.Proofs.YthiijdbiikljpaaGreat.Cod Go.Proofs.YthiijdbiikljpaaGreat.Disk Go.Proofs.YthiijdbiikljpaaGreat.Mbx
set_option linter.unusedVariables false
set_option linter.unusedSimpArgs false
set_option maxRecDepth 100000
theorem batB_len {x : BatD} (ho : BatOk x) {m : Nat} (g : ∀ p ∈ x.lets, p.2.length ≤ m) : (batB x).length ≤ 40 + 8 * x.inner.length + x.lets.length * (32 + m) := by
 obtain ⟨_, _, _, hol⟩ := ho
 unfold batB
 split
 have := encLets_le (l := x.lets) (m := m) (fun p hp => ⟨g p hp, hol p hp⟩)
 simp only [List.length_append, be64_length, putsL_length]; omega
 exact Nat.zero_le _
theorem keep_len (B : Box) (p : List UInt8) : (keepB B p).D.bs.length ≤ B.D.bs.length + 12 + p.length := by
 have h1 := settle_len B
 have h2 : (putD (settleB B).D p).bs.length ≤ (settleB B).D.bs.length + (12 + p.length) := by
   have h3 := app_len (settleB B).D (recB p)
   rw [recB_length] at h3
   unfold putD
   split
   exact h3
   exact h3
 unfold keepB
 split
 unfold putB
 split
 show (putD (settleB B).D p).bs.length ≤ _; omega
 have := settle_len ⟨putD (settleB B).D p, (settleB B).s, some (settleB B).D.bs.length⟩
 have h4 : (settleB ⟨putD (settleB B).D p, (settleB B).s, some (settleB B).D.bs.length⟩).D.bs.length ≤ (putD (settleB B).D p).bs.length := this
 omega
 omega
theorem accept_len (B : Box) (x : BatD) (ps : List Nat) : (acceptB B x ps).D.bs.length ≤ B.D.bs.length + 13 + (batB x).length ∧ (acceptB B x ps).s.l.length ≤ B.s.l.length + 1 := by
 have h1 := keep_len B (1 :: batB x)
 have h2 : (1 :: batB x).length = (batB x).length + 1 := rfl
 unfold acceptB
 split
 exact ⟨by omega, by omega⟩
 split
 exact ⟨by show (keepB B (1 :: batB x)).D.bs.length ≤ _; omega, by simp [Mbx.takeS]⟩
 rw [keepB_s]; exact ⟨by omega, by omega⟩
theorem RNums.nilM (A : Nat → Prop) (w : World) : RNums A w [.slice none 0 0] [] := ⟨none, 0, rfl, Sl.none _ _, fun ad e => (by cases e), fun x hx => by simp at hx⟩
theorem batM_of {A : Nat → Prop} {w : World} {r c : Int} {ns : List Nat} {ls : List Let} {vi vl : Value} (hr : InI r) (hc : InI c) (hn : RNums A w [vi] ns) (hl : RSl 33 RLet A w [vl] ls) (hb : ∀ x ∈ ns, x < 18446744073709551616) (hk : ∀ p ∈ ls, p.1.length = 32) (l1 : ns.length ≤ 1000000) (l2 : ls.length ≤ 1000000) (l3 : ∀ p ∈ ls, p.2.length ≤ 1000000) : BatM A w ⟨r, c, ns, ls⟩ vi vl :=
 ⟨hn, hl, ⟨hr, hc, hb, hk⟩, by show ns.length ≤ _; omega, by show ls.length ≤ _; omega, fun p hp => by have := l3 p hp; omega⟩
theorem num_ok (n : Int) (w : World) : Ct Tryz.prog 20 #[.int .i64 n] w (fun v w' => v = .int .i64 n ∧ w = w') := by
 refine Ct.enter [(0, .int .i64 n)] Tryz.func20 rfl rfl rfl rfl ?_
 refine C.seq (C.region (W.assign rfl rfl (W.nil (At.thenCode (C.seq (C.region (W.move rfl rfl (W.assign rfl rfl (W.nil (At.thenCode (C.ret ?_)))))))))))
 refine At.ret1 Tryz.results20 rfl ?_
 exact ⟨rfl, rfl⟩
theorem Live.split {w0 w : World} {Y : Nat → Prop} {g dg : Nat} {rv : Int} {B : Box} (h : Live w0 w Y g dg rv B) : ∃ F : Nat → Prop, St w F g dg B.s B.owed ∧ LiveD w0 w (fun k => Y k ∨ F k) dg rv B.D := by
 obtain ⟨F, Fd, h1, h2, h3, h4, h5⟩ := h.out
 exact ⟨F, h1, ⟨Fd, h2, fun k hk => ⟨fun hy => hy.elim (h5 k hk).1 fun hf => h3 k hf hk, (h5 k hk).2⟩⟩, h.ext, fun k hk => hk.elim (h.y k) (h1.lt k)⟩
theorem ow_bk {w : World} {base e n c g : Nat} {xs : List UInt8} (h : Ow w base e (.slice (some ⟨g, 0, none⟩) n c) xs) : ∃ cells, Bk w g cells := by
 rcases h.2 with ⟨h1, _⟩ | ⟨g', cap, cur, hv, hb, hg, _⟩
 cases h1
 injection hv with h1
 injection h1 with h1
 injection h1 with h1
 subst h1
 exact ⟨cur.toList, _, by simpa using hg⟩
section
open Go.Proofs.YthiijdbiikljpaaGreat.KW
variable {P : Program} {N : Nat} {Q : Exit → Act → World → Prop} {l : Env} {w : World} {ops : Array Oper} {rest : List Oper} {d : Tmp} {ty : TypeId} {pos : String} {aft : Array Edge} {x y : Operand} {T T' : TypeId}
theorem W.neqPtr {ad : Addr} (hT : P.underlying T = some (.pointer (P.pointee T))) (hx : ev l x = some (.pointer (some ad))) (hy : ev l y = some (.pointer none)) (hN : Nat.blt d N = true)
   (next : W P N ops Q rest ((d, .bool true) :: l) w) : W P N ops Q (⟨some d, .binOp .neq T x y T', ty, pos, aft, none⟩ :: rest) l w :=
 W.op rfl rfl hN (fun f ha => by
   have he : (eqGuard .neq T x y (.pointer (some ad)) (.pointer none)) = pure () := by unfold eqGuard; split <;> rfl
   simp only [execOp, ha.ev hx, ha.ev hy, he, Sem.run_bind, Sem.run_pure, Result.andThen_ok, run_neq_pointer_nil w T (some ad) hT]
   rfl) next
end
def x0 : BatD := ⟨1, 2, [], [(zeros32, [97])]⟩
def B0 (room : Nat) : Box := ⟨⟨room, [], 0, []⟩, ⟨[], 0⟩, none⟩
theorem x0_ok : BatOk x0 := ⟨by decide, by decide, fun y hy => by simp [x0] at hy, fun p hp => by obtain rfl := List.mem_singleton.1 hp; rfl⟩
theorem x0_may : mayE ⟨[], 0⟩ x0 = 0 := by
 have : batE x0 = 0 := by decide
 unfold mayE
 rw [this]
 decide
theorem x0_len : (batB x0).length ≤ 100 := by
 have := batB_len x0_ok (m := 1) (fun p hp => by obtain rfl := List.mem_singleton.1 hp; decide)
 have h1 : x0.inner.length = 0 := rfl
 have h2 : x0.lets.length = 1 := rfl
 omega
theorem alive_ok (w : World) : Ct Tryz.prog 4 #[] w (fun v w' => v = .bool true ∧ Ext w w') := by
 refine Ct.enter [] Tryz.func4 rfl rfl rfl rfl ?_
 obtain ⟨hop0, hg0⟩ := Good.new 10000
 have hxl := x0_len
 obtain ⟨ha1, ha2, ha3, ha4, ha5⟩ := hg0.accept (x := x0) (pubs := []) x0_may x0_ok rfl (by omega) (by show 0 + 13 + _ ≤ 10000; omega)
 have hop1 := ha2.open
 obtain ⟨B1, hB1⟩ : ∃ B1, B1 = acceptB (B0 10000) x0 [] := ⟨_, rfl⟩
 rw [show (⟨⟨10000, [], 0, []⟩, ⟨[], 0⟩, none⟩ : Box) = B0 10000 from rfl] at ha1 ha2 ha3 ha4 ha5 hop0 hop1
 rw [← hB1] at ha2 ha3 ha4 ha5 hop1
 have hs1 : B1.s = ⟨[x0], 0⟩ := ha3
 have hl1 : B1.s.l.length = 1 := by rw [hs1]; rfl
 have hd1 : B1.D.bs.length ≤ 1000 := by rw [ha5]; show 0 + 13 + _ ≤ _; omega
 refine C.seq (C.region (W.assign rfl rfl (W.nil (At.thenCode (C.seq (C.region ?_))))))
 refine W.call Tryz.call5 rfl (LiveD.New (w0 := w) (Y := fun _ => False) 10000 (Ext.refl _) (fun _ h => h.elim) (by decide)) rfl ?_
 rintro v5 w5 ⟨dg, rfl, hD5, hX5⟩
 refine W.assign rfl rfl (W.nil (At.thenCode (C.seq (C.region (W.move rfl rfl ?_)))))
 refine W.call Tryz.call9 rfl (hD5.Open (Nat.zero_le _)) rfl ?_
 rintro v7 w7 ⟨g, rfl, hL7, hC7⟩
 have hL7 : Live w w7 (fun _ => False) g dg (max 0 10000) (B0 10000) := by have := hL7; rwa [show (10000 : Int).toNat = 10000 from rfl, hop0] at this
 refine W.assign rfl rfl (W.nil (At.thenCode (C.seq (C.seq (C.region (W.move rfl rfl ?_))))))
 refine W.eqlPtr rfl rfl rfl rfl ?_
 refine W.nil (At.thenCode ?_)
 refine C.condF rfl ?_
 refine C.skip (At.thenCode (C.seq (C.region (W.move rfl rfl ?_))))
 refine W.litB [97] E8 Tryz.underlying22 rfl rfl rfl rfl rfl ?_
 intro g11 w11 hg11 hX11 ho11 hb11
 obtain ⟨cs11, hB11⟩ := ow_bk ho11
 refine W.constB Tryz.underlying22 Tryz.underlying5 rfl hB11 hb11 rfl ?_
 intro w12 hC12 hb12
 have hX12 : Ext w7 w12 := hX11.news hC12 fun k hk => Or.inr (by omega)
 refine W.buildS (fs := _) [(0, 32), (32, 1)] (zeros32.map byteV ++ [Value.slice (some ⟨g11, 0, none⟩) 1 1]) LZ Tryz.underlying58 (by kernel_rfl) (by kernel_rfl) rfl (by rw [fill_cons (us := [Value.slice (some ⟨g11, 0, none⟩) 1 1]) (off := 32) rfl rfl (by simp [LZ, Z32])]; rw [show KW.splice LZ 32 [Value.slice (some ⟨g11, 0, none⟩) 1 1] = zeros32.map byteV ++ [Value.slice (some ⟨g11, 0, none⟩) 1 1] from LZ_box (k := zeros32) rfl _ _]; rfl) rfl ?_
 refine W.litS (zeros32.map byteV ++ [Value.slice (some ⟨g11, 0, none⟩) 1 1]) ELet Tryz.underlying37 rfl rfl (by decide) rfl ?_
 intro g14 w14 hg14 hX14 _ hs14
 have hX14w := hX12.ext hX14
 have hL14 := hL7.more hX14w
 have hs12 := hX12.size
 have hl11 : g11 < w11.heap.size := (World.ownsRow.lt ho11 g11 rfl).2
 have hl14 : g14 < w14.heap.size := hs14.blk rfl (by simp)
 have hlet : RLet (Fr w (More (fun _ => False) w7 w14)) w14 (zeros32.map byteV ++ [Value.slice (some ⟨g11, 0, none⟩) 1 1]) (zeros32, [97]) := ⟨_, rfl, ⟨_, _, rfl, hb12.ext hX14, fun ad e _ hk => by
   obtain rfl := Option.some.inj e
   have q1 := hX14.size
   have q2 := hC12.size
   have q3 := hX11.size
   exact hk.1 (.inr ⟨by rw [hg11]; exact Nat.le_refl _, Nat.lt_of_lt_of_le hl11 (Nat.le_trans q2 q1)⟩)⟩, rfl⟩
 have hels : Els (Fr w (More (fun _ => False) w7 w14)) w14 33 RLet (some ⟨g14, 0, none⟩) 1 [(zeros32, [97])] := Els.lit hs14 hlet (fun hk => hk.1 (.inr ⟨by rw [hg14]; exact hs12, hl14⟩))
 have hbm : BatM (Fr w (More (fun _ => False) w7 w14)) w14 x0 (.slice none 0 0) (.slice (some ⟨g14, 0, none⟩) 1 1) := batM_of (by constructor <;> decide) (by constructor <;> decide) (RNums.nilM _ _) ⟨_, _, rfl, hels⟩ (fun y hy => by simp at hy) (fun p hp => by obtain rfl := List.mem_singleton.1 hp; rfl) (by decide) (by decide) (fun p hp => by obtain rfl := List.mem_singleton.1 hp; decide)
 refine W.buildS (fs := _) [(0, 1), (1, 1), (2, 1), (3, 1)] (batC x0 (.slice none 0 0) (.slice (some ⟨g14, 0, none⟩) 1 1)) [(.int .i64 0), (.int .i64 0), (.slice none 0 0), (.slice none 0 0)] Tryz.underlying39 (by kernel_rfl) (by kernel_rfl) rfl rfl rfl ?_
 refine W.call Tryz.call12 rfl (hL14.Accept (by decide) (ps := []) hbm (Els.nil _ _ _ _) (Nat.zero_le _) (by omega) (Nat.zero_le _) (Nat.zero_le _)) rfl ?_
 rintro v16 w16 ⟨rfl, hL16, hC16⟩
 rw [ha1]
 rw [← hB1] at hL16
 refine W.assign rfl rfl (W.nil (At.thenCode (C.seq (C.region (W.move rfl rfl ?_)))))
 obtain ⟨F, hSt16, hDs16⟩ := Live.split hL16
 refine W.call Tryz.call9 rfl (hDs16.Open (by omega)) rfl ?_
 rintro v18 w18 ⟨g2, rfl, hL18, hC18⟩
 rw [hop1] at hL18
 have hSt18 := hSt16.chg hC18 fun k hk hf => hf.1 (.inr hk)
 refine W.assign rfl rfl (W.nil (At.thenCode (C.seq (C.region (W.move rfl rfl ?_)))))
 refine W.call Tryz.call20 rfl (Law23.num_ok _ _) rfl ?_
 rintro v20 w20 ⟨rfl, rfl⟩
 refine W.eqlI rfl rfl rfl ?_
 refine W.eqv (bT (rfl)) ?_
 refine W.move rfl rfl (W.wants rfl rfl rfl rfl (W.move rfl rfl (W.wants rfl rfl rfl rfl ?_)))
 refine W.call Tryz.call24 rfl (Mbx.Len_ok F g dg B1.s B1.owed _ hSt18) rfl ?_
 rintro v24 w24 ⟨rfl, rfl⟩
 refine W.wants rfl rfl rfl rfl (W.eqlI rfl rfl rfl ?_)
 refine W.eqv (bT (by rw [hl1]; rfl)) ?_
 refine W.pickT rfl rfl rfl (W.move rfl rfl (W.wants rfl rfl rfl rfl (W.move rfl rfl (W.wants rfl rfl rfl rfl ?_))))
 refine W.neqPtr rfl rfl rfl rfl ?_
 refine W.eqv (v' := .bool true) (rfl) ?_
 refine W.pickT rfl rfl rfl (W.move rfl rfl (W.wants rfl rfl rfl rfl (W.move rfl rfl (W.wants rfl rfl rfl rfl ?_))))
 refine W.call Tryz.call24 rfl hL18.Len rfl ?_
 rintro v33 w33 ⟨rfl, rfl⟩
 refine W.wants rfl rfl rfl rfl (W.eqlI rfl rfl rfl ?_)
 refine W.eqv (bT (by rw [hl1]; rfl)) ?_
 refine W.pickT rfl rfl rfl (W.move rfl rfl (W.wants rfl rfl rfl rfl (W.move rfl rfl (W.wants rfl rfl rfl rfl ?_))))
 refine W.buildAF (zeros32.map byteV) (List.replicate 32 (byteV 0)) X8 Tryz.underlying43 (by kernel_rfl) rfl rfl rfl ?_
 refine W.wants rfl rfl rfl rfl ?_
 refine W.call Tryz.call25 rfl (hL18.Fetch (name := zeros32) (a := 0) (c := 9) rfl (by constructor <;> decide) (by constructor <;> decide) (by omega)) rfl ?_
 rintro v39 w39 ⟨a39, c39, rfl, hE39, hX39⟩
 refine W.wants rfl rfl rfl rfl (W.lenS rfl Tryz.underlying37 rfl (W.wants rfl rfl rfl rfl (W.eqlI rfl rfl rfl ?_)))
 refine W.eqv (bT (by rw [hs1]; rfl)) ?_
 refine W.pickT rfl rfl rfl (W.assign rfl rfl (W.nil (At.thenCode (C.ret ?_))))
 refine At.ret1 Tryz.results4 rfl ?_
 exact ⟨rfl, hL18.ext.ext hX39⟩
section
open Go.Proofs.YthiijdbiikljpaaGreat.KW
variable {P : Program} {N : Nat} {Q : Exit → Act → World → Prop} {l : Env} {w : World} {ops : Array Oper} {rest : List Oper} {d : Tmp} {ty : TypeId} {pos : String} {aft : Array Edge} {x y : Operand} {T T' : TypeId}
theorem W.appendE1 {α : Type} {R : RdT α} {A : Nat → Prop} {e sz bytes base c : Nat} {z v : Value} {ao : Option Addr} {xs : List α} {y0 : α} {es : List Value} (hR : RdOk R) (hE : Elem P e sz bytes z) (hT : P.underlying T = some (.slice e))
   (hx : ev l x = some v) (hy : ev l y = some (.slice ao 1 c)) (ho : OwE A w base e sz R v xs) (hsl : Sl w ao 1 c sz es) (hes : R (fun k => A k ∨ v.ownBlock = some k) w es y0) (hlen : (xs.length + 1) * bytes ≤ 140737488355328) (hlen2 : xs.length + 1 ≤ 140737488355328) (hbase : base ≤ w.heap.size) (hN : Nat.blt d N = true)
   (next : ∀ v' w', OwE A w' base e sz R v' (xs ++ [y0]) → w.grownBy w' v.ownBlock → (v'.ownBlock = v.ownBlock ∨ ∃ k, v'.ownBlock = some k ∧ w.heap.size ≤ k) → W P N ops Q rest ((d, v') :: l) w') :
   W P N ops Q (⟨some d, .call ⟨.builtin .append, #[x, y], #[T, T]⟩, ty, pos, aft, none⟩ :: rest) l w := by
 obtain ⟨cs, hown, he⟩ := ho
 have h1 : ∀ u ∈ es, u.oneCell' = true := fun u hu => hR.one hes u hu
 refine W.append hE hT hx hy hown hsl h1 hlen hlen2 hbase hN fun v' w' h2 h3 h4 => next v' w' ⟨cs ++ es, by rw [List.length_append]; exact h2, fun i hi => ?_⟩ h3 h4
 have hC : Chg (fun k => v.ownBlock = some k) w w' := (Chg.of_grown h3).mono fun k hk => hk.symm
 have step : ∀ (c0 : List Value) (a : α), R (fun k => A k ∨ v.ownBlock = some k) w c0 a → R (fun k => A k ∨ v'.ownBlock = some k) w' c0 a := by
   intro c0 a ha
   have hb : R (fun k => A k ∨ v.ownBlock = some k ∨ w.heap.size ≤ k) w c0 a := hR.new ha fun k hk hlt => by
     rcases hk with hk | hk | hk
     exact Or.inl hk
     exact Or.inr hk
     omega
   have hc : R (fun k => A k ∨ v.ownBlock = some k ∨ w.heap.size ≤ k) w' c0 a := hR.chg hb (hC.mono fun k hk => Or.inr (Or.inl hk))
   refine hR.new hc fun k hk _ => ?_
   rcases hk with hk | hk
   exact Or.inl hk
   rcases h4 with h4 | ⟨k', h4, h5⟩
   exact Or.inr (Or.inl (by rw [← h4]; exact hk))
   rw [h4] at hk; obtain rfl := Option.some.inj hk; exact Or.inr (Or.inr h5)
 have hcl : cs.length = xs.length * sz := hown.1
 rw [List.length_append] at hi
 by_cases hlt : i < xs.length
 rw [part_left hcl hlt]
 have := step _ _ (he i hlt)
 rwa [List.getElem_append_left hlt]
 have hi1 : i = xs.length := by simp at hi; omega
 subst hi1
 rw [part_right hcl (Nat.le_refl _), Nat.sub_self, Nat.zero_mul, List.drop_zero, List.take_of_length_le (by have := hsl.len; omega)]
 have := step _ _ hes
 rwa [List.getElem_append_right (Nat.le_refl _), show ([y0] : List α)[xs.length - xs.length]'(by simp) = y0 by simp]
end
def wantL (k : List UInt8) (l : List Let) : List Let := l.filter fun p => decide (p.1 = k)
structure FetP (k : List UInt8) (r : Nat) (want : List Let) (B : Box) (ps : List (List UInt8)) : Prop where
  good : Mbx.Good B ps
  room : B.D.room = 100000
  len : B.D.bs.length ≤ r * 3000
  past : B.s.past = 0
  rounds : ∀ x ∈ B.s.l, 0 ≤ x.round ∧ x.round < (r : Int)
  cnt : B.s.l.length ≤ r
  held : (heldL B.s.l k).map (fun h => (k, h.2)) = want
def rB (r : Nat) (part : List Let) : BatD := ⟨(r : Int), 0, [], part⟩
end Go.Proofs.YthiijdbiikljpaaGreat.Law23
namespace Go.Proofs.YthiijdbiikljpaaGreat.Cod
open Go Go.RowKit Go.Proofs.YthiijdbiikljpaaGreat.KW Go.Proofs.YthiijdbiikljpaaGreat.Words Go.Proofs.YthiijdbiikljpaaGreat.Grp
set_option linter.unusedVariables false
set_option linter.unusedSimpArgs false
set_option maxRecDepth 100000
theorem Rfail_ok (g : Nat) (q : Option Addr) (c : Nat) (b : List UInt8) (s : St) (e0 : Nat) (w : World) (h : Rdr w g q c b s) (h0 : e0 ≠ 0) (h1 : e0 ≤ 100) :
   Ct Tryz.prog 106 #[.pointer (some ⟨g, 0, none⟩), .int .i64 (e0 : Int)] w (fun v w' => v = .tuple #[] ∧ RdP w g q c b (failS e0 s) w') := by
 refine Ct.enter [(0, .pointer (some ⟨g, 0, none⟩)), (1, .int .i64 (e0 : Int))] Tryz.func106 rfl rfl rfl rfl ?_
 obtain ⟨p, e, hB, hp, he, rfl⟩ := h.out
 have hfc := failS_cases e0 e (b.drop p) h0
 refine C.seq (C.region (W.move rfl rfl (W.nilCheck rfl rfl (W.fieldB (off := 2) (size := 1) (t := 3) (Fld.of (by kernel_rfl)) rfl rfl rfl ?_))))
 refine W.loadB rfl Tryz.underlying3 rfl (by assumption) rfl rfl ?_
 refine W.eqlI rfl rfl rfl (W.nil (At.thenCode ?_))
 refine C.condD rfl (fun c8 => ?_) (fun c8 => ?_)
 refine C.region (W.move rfl rfl (W.move rfl rfl (W.nilCheck rfl rfl (W.fieldB (off := 2) (size := 1) (t := 3) (Fld.of (by kernel_rfl)) rfl rfl rfl ?_))))
 refine W.store1 rfl rfl rfl hB (by simp) (by kernel_rfl) ?_
 intro w1 hc1 hB1
 refine W.nil ?_
 refine At.end0 Tryz.results106 ?_
 first
 | (refine ⟨rfl, ?_⟩
    rw [hfc, if_pos (by omega)]
    exact h.set hc1 hB1 hp h1)
 | (refine ⟨rfl, ?_⟩
    rw [hfc, if_neg (by omega)]
    exact h.refl)
 refine C.skip ?_
 refine At.end0 Tryz.results106 ?_
 first
 | (refine ⟨rfl, ?_⟩
    rw [hfc, if_pos (by omega)]
    exact h.set hc1 hB1 hp h1)
 | (refine ⟨rfl, ?_⟩
    rw [hfc, if_neg (by omega)]
    exact h.refl)
theorem takeA (g : Nat) (q : Option Addr) (c : Nat) (b : List UInt8) (p e n : Nat) (w : World) (h : Rdr w g q c b (e, [])) (hB : Bk w g [.slice q b.length c, .int .i64 (p : Int), .int .i64 (e : Int)]) (he : e ≠ 0) :
   Ct Tryz.prog 82 #[.pointer (some ⟨g, 0, none⟩), .int .i64 (n : Int)] w (TakeP g q c b w ([], (e, []))) := by
 refine Ct.enter [(0, .pointer (some ⟨g, 0, none⟩)), (1, .int .i64 (n : Int))] Tryz.func82 rfl rfl rfl rfl ?_
 refine C.seq (C.region (W.assign rfl rfl (W.nil (At.thenCode (C.seq (C.seq (C.region (W.move rfl rfl (W.nilCheck rfl rfl (W.fieldB (off := 2) (size := 1) (t := 3) (Fld.of (by kernel_rfl)) rfl rfl rfl ?_))))))))))
 refine W.loadB rfl Tryz.underlying3 rfl (by assumption) rfl rfl ?_
 refine W.neqI rfl rfl rfl ?_
 refine W.eqv (bT (by omega)) ?_
 refine W.nil (At.thenCode ?_)
 refine C.condT rfl ?_
 refine C.seq (C.region (W.assign rfl rfl (W.nil (At.thenCode (C.ret (At.thenRet ?_))))))
 refine At.ret1 Tryz.results82 rfl ?_
 exact ⟨none, 0, rfl, NewB.nil _ _, h.refl⟩
theorem takeC (g : Nat) (q : Option Addr) (c : Nat) (b : List UInt8) (p n : Nat) (w : World) (h : Rdr w g q c b (0, b.drop p)) (hB : Bk w g [.slice q b.length c, .int .i64 (p : Int), .int .i64 0]) (hp : p ≤ b.length) (hn : n ≤ 1099511627776) (hlen : b.length ≤ 1099511627776) (hs : ¬ p + n ≤ b.length) :
   Ct Tryz.prog 82 #[.pointer (some ⟨g, 0, none⟩), .int .i64 (n : Int)] w (TakeP g q c b w ([], (4, []))) := by
 refine Ct.enter [(0, .pointer (some ⟨g, 0, none⟩)), (1, .int .i64 (n : Int))] Tryz.func82 rfl rfl rfl rfl ?_
 refine C.seq (C.region (W.assign rfl rfl (W.nil (At.thenCode (C.seq (C.seq (C.region (W.move rfl rfl (W.nilCheck rfl rfl (W.fieldB (off := 2) (size := 1) (t := 3) (Fld.of (by kernel_rfl)) rfl rfl rfl ?_))))))))))
 refine W.loadB rfl Tryz.underlying3 rfl (by assumption) rfl rfl ?_
 refine W.neqI rfl rfl rfl ?_
 refine W.eqv (bF (by omega)) ?_
 refine W.nil (At.thenCode ?_)
 refine C.condF rfl ?_
 refine C.skip (At.thenCode (C.seq (C.seq ?_)))
 refine C.regionAny 12 (E_ (.pointer (some ⟨g, 0, none⟩)) :: E_ (.pointer (some ⟨g, 0, none⟩)) :: E_ (.pointer (some ⟨g, 0, none⟩)) :: E_ (.slice q b.length c) :: E_ (.int .i64 (b.length : Int)) :: E_ (.pointer (some ⟨g, 0, none⟩)) :: E_ (.pointer (some ⟨g, 0, none⟩)) :: E_ (.pointer (some ⟨g, 1, none⟩)) :: E_ (.int .i64 (p : Int)) :: E_ (.int .i64 ((b.length : Int) - (p : Int))) :: E_ (.int .i64 (n : Int)) :: E_ (.bool true) :: []) [(0, .pointer (some ⟨g, 0, none⟩)), (1, .int .i64 (n : Int))] [] (sc rfl (sc rfl (Sub.nil))) (Sub.nil) (sc rfl (sc rfl (Sub.nil))) (by kernel_rfl) rfl rfl rfl (sN (sN (sN (sN (sN (sN (sN (sN (sN (sN (sN (sN (trivial))))))))))))) ?_ ?_
 refine And.intro (mB rfl rfl (fun _ => rfl) rfl) ?_
 refine And.intro ?_ ?_
 intro L_ w1 hX_ hs_ hf_ hd_
 obtain ⟨_, e0, rfl⟩ := hd_ 0 rfl
 exact W.s1 (e0 _ rfl) (W.nilCheck rfl rfl (W.e0 rfl))
 refine And.intro ?_ ?_
 intro L_ w1 hX_ hs_ hf_ hd_
 obtain ⟨_, e1, rfl⟩ := hd_ 1 rfl
 exact W.s1 (e1 _ rfl) (W.fieldB (off := 0) (size := 1) (t := 22) (Fld.of (by kernel_rfl)) rfl rfl rfl (W.e0 rfl))
 refine And.intro ?_ ?_
 intro L_ w1 hX_ hs_ hf_ hd_
 obtain ⟨_, e2, rfl⟩ := hd_ 2 rfl
 refine W.s1 (e2 _ rfl) ?_
 refine W.loadB rfl Tryz.underlying22 rfl (Bk.ext (by assumption) hX_) rfl rfl ?_
 exact W.e0 rfl
 refine And.intro ?_ ?_
 intro L_ w1 hX_ hs_ hf_ hd_
 obtain ⟨_, e3, rfl⟩ := hd_ 3 rfl
 exact W.s1 (e3 _ rfl) (W.lenS rfl Tryz.underlying22 rfl (W.e0 rfl))
 refine And.intro (mB rfl rfl (fun _ => rfl) rfl) ?_
 refine And.intro ?_ ?_
 intro L_ w1 hX_ hs_ hf_ hd_
 obtain ⟨_, e5, rfl⟩ := hd_ 5 rfl
 exact W.s1 (e5 _ rfl) (W.nilCheck rfl rfl (W.e0 rfl))
 refine And.intro ?_ ?_
 intro L_ w1 hX_ hs_ hf_ hd_
 obtain ⟨_, e6, rfl⟩ := hd_ 6 rfl
 exact W.s1 (e6 _ rfl) (W.fieldB (off := 1) (size := 1) (t := 3) (Fld.of (by kernel_rfl)) rfl rfl rfl (W.e0 rfl))
 refine And.intro ?_ ?_
 intro L_ w1 hX_ hs_ hf_ hd_
 obtain ⟨_, e7, rfl⟩ := hd_ 7 rfl
 refine W.s1 (e7 _ rfl) ?_
 refine W.loadB rfl Tryz.underlying3 rfl (Bk.ext (by assumption) hX_) rfl rfl ?_
 exact W.e0 rfl
 refine And.intro ?_ ?_
 intro L_ w1 hX_ hs_ hf_ hd_
 obtain ⟨_, e4, rfl⟩ := hd_ 4 rfl
 obtain ⟨_, e8, rfl⟩ := hd_ 8 rfl
 refine W.s2 (e4 _ rfl) (e8 _ rfl) ?_
 refine W.subI rfl rfl (by omega) rfl ?_
 exact W.e0 rfl
 refine And.intro (mB rfl rfl (fun _ => rfl) rfl) ?_
 refine And.intro ?_ ?_
 intro L_ w1 hX_ hs_ hf_ hd_
 obtain ⟨_, e9, rfl⟩ := hd_ 9 rfl
 obtain ⟨_, e10, rfl⟩ := hd_ 10 rfl
 refine W.s2 (e9 _ rfl) (e10 _ rfl) (W.lssI rfl rfl rfl ?_)
 refine W.eqv (bT (by omega)) ?_
 exact W.e0 rfl
 exact trivial
 intro L_ w1 hX3 hs_ hv_
 obtain ⟨_, e11, rfl⟩ := hv_ 11 (by decide)
 refine W.weaken (l' := [(21, _), (0, _), (1, _)]) (sc (e11 _ rfl) (sc (hs_ _ _ rfl) (sc (hs_ _ _ rfl) (Sub.nil)))) ?_
 refine W.nil (At.thenCode ?_)
 refine C.condT rfl ?_
 refine C.seq (C.region (W.move rfl rfl ?_))
 have h1 := h.ext hX3
 refine W.call Tryz.call106 rfl (Cod.Rfail_ok _ _ _ _ _ _ _ (by assumption) (by decide) (by decide)) rfl ?_
 rintro v23 w23 ⟨rfl, hP23⟩
 refine W.nil (At.thenCode (C.seq (C.region (W.assign rfl rfl (W.nil (At.thenCode (C.ret (At.thenRet ?_))))))))
 refine At.ret1 Tryz.results82 rfl ?_
 exact ⟨none, 0, rfl, NewB.nil _ _, ⟨hP23.rdr, (Chg.mono hX3 fun k hk => hk.elim).trans hP23.chg⟩⟩
theorem takeB (g : Nat) (q : Option Addr) (c : Nat) (b : List UInt8) (p n : Nat) (w : World) (h : Rdr w g q c b (0, b.drop p)) (hB : Bk w g [.slice q b.length c, .int .i64 (p : Int), .int .i64 0]) (hp : p ≤ b.length) (hn : n ≤ 1099511627776) (hlen : b.length ≤ 1099511627776) (hs : p + n ≤ b.length) :
   Ct Tryz.prog 82 #[.pointer (some ⟨g, 0, none⟩), .int .i64 (n : Int)] w (TakeP g q c b w ((b.drop p).take n, (0, b.drop (p + n)))) := by
 refine Ct.enter [(0, .pointer (some ⟨g, 0, none⟩)), (1, .int .i64 (n : Int))] Tryz.func82 rfl rfl rfl rfl ?_
 obtain ⟨xs, hxs⟩ : ∃ xs, xs = (b.drop p).take n := ⟨_, rfl⟩
 have hxl : xs.length = n := by rw [hxs, List.length_take, List.length_drop]; omega
 rw [← hxs]
 refine C.seq (C.region (W.assign rfl rfl (W.nil (At.thenCode (C.seq (C.seq (C.region (W.move rfl rfl (W.nilCheck rfl rfl (W.fieldB (off := 2) (size := 1) (t := 3) (Fld.of (by kernel_rfl)) rfl rfl rfl ?_))))))))))
 refine W.loadB rfl Tryz.underlying3 rfl (by assumption) rfl rfl ?_
 refine W.neqI rfl rfl rfl ?_
 refine W.eqv (bF (by omega)) ?_
 refine W.nil (At.thenCode ?_)
 refine C.condF rfl ?_
 refine C.skip (At.thenCode (C.seq (C.seq ?_)))
 refine C.regionAny 12 (E_ (.pointer (some ⟨g, 0, none⟩)) :: E_ (.pointer (some ⟨g, 0, none⟩)) :: E_ (.pointer (some ⟨g, 0, none⟩)) :: E_ (.slice q b.length c) :: E_ (.int .i64 (b.length : Int)) :: E_ (.pointer (some ⟨g, 0, none⟩)) :: E_ (.pointer (some ⟨g, 0, none⟩)) :: E_ (.pointer (some ⟨g, 1, none⟩)) :: E_ (.int .i64 (p : Int)) :: E_ (.int .i64 ((b.length : Int) - (p : Int))) :: E_ (.int .i64 (n : Int)) :: E_ (.bool false) :: []) [(0, .pointer (some ⟨g, 0, none⟩)), (1, .int .i64 (n : Int))] [] (sc rfl (sc rfl (Sub.nil))) (Sub.nil) (sc rfl (sc rfl (Sub.nil))) (by kernel_rfl) rfl rfl rfl (sN (sN (sN (sN (sN (sN (sN (sN (sN (sN (sN (sN (trivial))))))))))))) ?_ ?_
 refine And.intro (mB rfl rfl (fun _ => rfl) rfl) ?_
 refine And.intro ?_ ?_
 intro L_ w1 hX_ hs_ hf_ hd_
 obtain ⟨_, e0, rfl⟩ := hd_ 0 rfl
 exact W.s1 (e0 _ rfl) (W.nilCheck rfl rfl (W.e0 rfl))
 refine And.intro ?_ ?_
 intro L_ w1 hX_ hs_ hf_ hd_
 obtain ⟨_, e1, rfl⟩ := hd_ 1 rfl
 exact W.s1 (e1 _ rfl) (W.fieldB (off := 0) (size := 1) (t := 22) (Fld.of (by kernel_rfl)) rfl rfl rfl (W.e0 rfl))
 refine And.intro ?_ ?_
 intro L_ w1 hX_ hs_ hf_ hd_
 obtain ⟨_, e2, rfl⟩ := hd_ 2 rfl
 refine W.s1 (e2 _ rfl) ?_
 refine W.loadB rfl Tryz.underlying22 rfl (Bk.ext (by assumption) hX_) rfl rfl ?_
 exact W.e0 rfl
 refine And.intro ?_ ?_
 intro L_ w1 hX_ hs_ hf_ hd_
 obtain ⟨_, e3, rfl⟩ := hd_ 3 rfl
 exact W.s1 (e3 _ rfl) (W.lenS rfl Tryz.underlying22 rfl (W.e0 rfl))
 refine And.intro (mB rfl rfl (fun _ => rfl) rfl) ?_
 refine And.intro ?_ ?_
 intro L_ w1 hX_ hs_ hf_ hd_
 obtain ⟨_, e5, rfl⟩ := hd_ 5 rfl
 exact W.s1 (e5 _ rfl) (W.nilCheck rfl rfl (W.e0 rfl))
 refine And.intro ?_ ?_
 intro L_ w1 hX_ hs_ hf_ hd_
 obtain ⟨_, e6, rfl⟩ := hd_ 6 rfl
 exact W.s1 (e6 _ rfl) (W.fieldB (off := 1) (size := 1) (t := 3) (Fld.of (by kernel_rfl)) rfl rfl rfl (W.e0 rfl))
 refine And.intro ?_ ?_
 intro L_ w1 hX_ hs_ hf_ hd_
 obtain ⟨_, e7, rfl⟩ := hd_ 7 rfl
 refine W.s1 (e7 _ rfl) ?_
 refine W.loadB rfl Tryz.underlying3 rfl (Bk.ext (by assumption) hX_) rfl rfl ?_
 exact W.e0 rfl
 refine And.intro ?_ ?_
 intro L_ w1 hX_ hs_ hf_ hd_
 obtain ⟨_, e4, rfl⟩ := hd_ 4 rfl
 obtain ⟨_, e8, rfl⟩ := hd_ 8 rfl
 refine W.s2 (e4 _ rfl) (e8 _ rfl) ?_
 refine W.subI rfl rfl (by omega) rfl ?_
 exact W.e0 rfl
 refine And.intro (mB rfl rfl (fun _ => rfl) rfl) ?_
 refine And.intro ?_ ?_
 intro L_ w1 hX_ hs_ hf_ hd_
 obtain ⟨_, e9, rfl⟩ := hd_ 9 rfl
 obtain ⟨_, e10, rfl⟩ := hd_ 10 rfl
 refine W.s2 (e9 _ rfl) (e10 _ rfl) (W.lssI rfl rfl rfl ?_)
 refine W.eqv (bF (by omega)) ?_
 exact W.e0 rfl
 exact trivial
 intro L_ w1 hX3 hs_ hv_
 obtain ⟨_, e11, rfl⟩ := hv_ 11 (by decide)
 refine W.weaken (l' := [(21, _), (0, _), (1, _)]) (sc (e11 _ rfl) (sc (hs_ _ _ rfl) (sc (hs_ _ _ rfl) (Sub.nil)))) ?_
 refine W.nil (At.thenCode ?_)
 refine C.condF rfl ?_
 refine C.skip (At.thenCode (C.seq (C.region (W.move rfl rfl (W.move rfl rfl (W.nilCheck rfl rfl (W.fieldB (off := 1) (size := 1) (t := 3) (Fld.of (by kernel_rfl)) rfl rfl rfl ?_)))))))
 have h1 := h.ext hX3
 have hB1 := hB.ext hX3
 refine W.loadB rfl Tryz.underlying3 rfl (by assumption) rfl rfl ?_
 refine W.move rfl rfl ?_
 refine W.addI rfl rfl (by omega) rfl ?_
 refine W.nilCheck rfl rfl (W.fieldB (off := 1) (size := 1) (t := 3) (Fld.of (by kernel_rfl)) rfl rfl rfl ?_)
 refine W.store1 rfl rfl rfl hB1 (by simp) (by kernel_rfl) ?_
 intro w5 hc5 hB5
 have hB5 : Bk w5 g [.slice q b.length c, .int .i64 ((p + n : Nat) : Int), .int .i64 0] := by simpa using hB5
 have hP5 := h1.set (p := p + n) (e := 0) hc5 hB5 (by omega) (by decide)
 refine W.nil (At.thenCode (C.seq ?_))
 refine C.regionAny 15 (E_ (.pointer (some ⟨g, 0, none⟩)) :: E_ (.pointer (some ⟨g, 0, none⟩)) :: E_ (.pointer (some ⟨g, 0, none⟩)) :: E_ (.slice q b.length c) :: E_ (.pointer (some ⟨g, 0, none⟩)) :: E_ (.pointer (some ⟨g, 0, none⟩)) :: E_ (.pointer (some ⟨g, 1, none⟩)) :: E_ (.int .i64 ((p + n : Nat) : Int)) :: E_ (.int .i64 (n : Int)) :: E_ (.int .i64 (((p + n : Nat) : Int) - (n : Int))) :: E_ (.pointer (some ⟨g, 0, none⟩)) :: E_ (.pointer (some ⟨g, 0, none⟩)) :: E_ (.pointer (some ⟨g, 1, none⟩)) :: E_ (.int .i64 ((p + n : Nat) : Int)) :: (fun v w => Rep w v xs) :: []) [(0, .pointer (some ⟨g, 0, none⟩)), (1, .int .i64 (n : Int))] [] (sc rfl (sc rfl (Sub.nil))) (Sub.nil) (sc rfl (sc rfl (Sub.nil))) (by kernel_rfl) rfl rfl rfl (sN (sN (sN (sN (sN (sN (sN (sN (sN (sN (sN (sN (sN (sN (sM (fun _ _ _ h g => h.ext g) (trivial)))))))))))))))) ?_ ?_
 refine And.intro (mB rfl rfl (fun _ => rfl) rfl) ?_
 refine And.intro ?_ ?_
 intro L_ w6 hX_ hs_ hf_ hd_
 obtain ⟨_, e0, rfl⟩ := hd_ 0 rfl
 exact W.s1 (e0 _ rfl) (W.nilCheck rfl rfl (W.e0 rfl))
 refine And.intro ?_ ?_
 intro L_ w6 hX_ hs_ hf_ hd_
 obtain ⟨_, e1, rfl⟩ := hd_ 1 rfl
 exact W.s1 (e1 _ rfl) (W.fieldB (off := 0) (size := 1) (t := 22) (Fld.of (by kernel_rfl)) rfl rfl rfl (W.e0 rfl))
 refine And.intro ?_ ?_
 intro L_ w6 hX_ hs_ hf_ hd_
 obtain ⟨_, e2, rfl⟩ := hd_ 2 rfl
 refine W.s1 (e2 _ rfl) ?_
 refine W.loadB rfl Tryz.underlying22 rfl (Bk.ext (by assumption) hX_) rfl rfl ?_
 exact W.e0 rfl
 refine And.intro (mB rfl rfl (fun _ => rfl) rfl) ?_
 refine And.intro ?_ ?_
 intro L_ w6 hX_ hs_ hf_ hd_
 obtain ⟨_, e4, rfl⟩ := hd_ 4 rfl
 exact W.s1 (e4 _ rfl) (W.nilCheck rfl rfl (W.e0 rfl))
 refine And.intro ?_ ?_
 intro L_ w6 hX_ hs_ hf_ hd_
 obtain ⟨_, e5, rfl⟩ := hd_ 5 rfl
 exact W.s1 (e5 _ rfl) (W.fieldB (off := 1) (size := 1) (t := 3) (Fld.of (by kernel_rfl)) rfl rfl rfl (W.e0 rfl))
 refine And.intro ?_ ?_
 intro L_ w6 hX_ hs_ hf_ hd_
 obtain ⟨_, e6, rfl⟩ := hd_ 6 rfl
 refine W.s1 (e6 _ rfl) ?_
 refine W.loadB rfl Tryz.underlying3 rfl (Bk.ext (by assumption) hX_) rfl rfl ?_
 exact W.e0 rfl
 refine And.intro (mB rfl rfl (fun _ => rfl) rfl) ?_
 refine And.intro ?_ ?_
 intro L_ w6 hX_ hs_ hf_ hd_
 obtain ⟨_, e7, rfl⟩ := hd_ 7 rfl
 obtain ⟨_, e8, rfl⟩ := hd_ 8 rfl
 refine W.s2 (e7 _ rfl) (e8 _ rfl) ?_
 refine W.subI rfl rfl (by omega) rfl ?_
 exact W.e0 rfl
 refine And.intro (mB rfl rfl (fun _ => rfl) rfl) ?_
 refine And.intro ?_ ?_
 intro L_ w6 hX_ hs_ hf_ hd_
 obtain ⟨_, e10, rfl⟩ := hd_ 10 rfl
 exact W.s1 (e10 _ rfl) (W.nilCheck rfl rfl (W.e0 rfl))
 refine And.intro ?_ ?_
 intro L_ w6 hX_ hs_ hf_ hd_
 obtain ⟨_, e11, rfl⟩ := hd_ 11 rfl
 exact W.s1 (e11 _ rfl) (W.fieldB (off := 1) (size := 1) (t := 3) (Fld.of (by kernel_rfl)) rfl rfl rfl (W.e0 rfl))
 refine And.intro ?_ ?_
 intro L_ w6 hX_ hs_ hf_ hd_
 obtain ⟨_, e12, rfl⟩ := hd_ 12 rfl
 refine W.s1 (e12 _ rfl) ?_
 refine W.loadB rfl Tryz.underlying3 rfl (Bk.ext (by assumption) hX_) rfl rfl ?_
 exact W.e0 rfl
 refine And.intro ?_ ?_
 intro L_ w6 hX_ hs_ hf_ hd_
 obtain ⟨_, e3, rfl⟩ := hd_ 3 rfl
 obtain ⟨_, e9, rfl⟩ := hd_ 9 rfl
 obtain ⟨_, e13, rfl⟩ := hd_ 13 rfl
 refine W.s3 (e3 _ rfl) (e9 _ rfl) (e13 _ rfl) ?_
 have hb5 := hP5.rdr.bs.ext hX_
 refine W.slice (lo := p) (hi := p + n) E8 Tryz.underlying22 rfl hb5 (.inr ⟨_, _, rfl, look_eq rfl (iV (by omega))⟩) (.inr ⟨_, _, rfl, rfl⟩) (by omega) (by omega) rfl ?_
 intro ao2 c2 hS2 _
 rw [show p + n - p = n by omega, Nat.mul_one, Nat.mul_one, ← List.map_drop, ← List.map_take, ← hxs] at hS2
 rw [show p + n - p = n by omega]
 have hrep : Rep w6 (.slice ao2 n c2) xs := ⟨ao2, c2, by rw [hxl], by show Sl _ _ _ _ _ _; rw [hxl]; exact hS2⟩
 exact W.e0 hrep
 exact trivial
 intro L_ w6 hX7 hs_ hv_
 obtain ⟨v14, e14, r14⟩ := hv_ 14 (by decide)
 obtain ⟨a14, c14, rfl, hs14⟩ := r14
 refine W.weaken (l' := [(47, _), (0, _), (1, _)]) (sc (e14 _ rfl) (sc (hs_ _ _ rfl) (sc (hs_ _ _ rfl) (Sub.nil)))) ?_
 refine W.appendB (ys := xs) E8 Tryz.underlying22 rfl rfl (Ow.nil _ w6.heap.size 5) hs14 (by simp; omega) (Nat.le_refl _) rfl ?_
 rw [List.nil_append]
 intro v54 w54 ho54 hg54 _
 have hX54 : Ext w6 w54 := (Chg.of_grown hg54).mono fun k hk => by cases hk
 obtain ⟨aR, cR, rfl, hSR, hbR⟩ := ownsRow_form ho54
 refine W.assign rfl rfl (W.nil (At.thenCode (C.ret ?_)))
 refine At.ret1 Tryz.results82 rfl ?_
 have hr5 := hP5.rdr
 refine ⟨aR, cR, rfl, ⟨hSR, fun ad ea _ => ?_⟩, ⟨?_, ?_⟩⟩
 have := hbR ad ea; have := hX3.size; have := hc5.size; have := hX7.size; omega
 have := (hr5.ext hX7).ext hX54
 simpa using this
 exact ((Chg.mono hX3 fun k hk => hk.elim).trans hc5).trans (Chg.mono (hX7.ext hX54) fun k hk => hk.elim)
theorem Rtake_ok (g : Nat) (q : Option Addr) (c : Nat) (b : List UInt8) (s : St) (n : Nat) (w : World) (h : Rdr w g q c b s) (hlen : b.length ≤ 1099511627776) (hn : n ≤ 1099511627776) :
   Ct Tryz.prog 82 #[.pointer (some ⟨g, 0, none⟩), .int .i64 (n : Int)] w (TakeP g q c b w (takeS n s)) := by
 obtain ⟨p, e, hB, hp, he, rfl⟩ := h.out
 by_cases h0 : e = 0
 subst h0
 rw [if_pos rfl] at h ⊢
 by_cases hs : p + n ≤ b.length
 rw [takeS_at hp hs]
 exact takeB g q c b p n w h hB hp hn hlen hs
 rw [takeS_short hp hs]
 exact takeC g q c b p n w h hB hp hn hlen hs
 rw [if_neg h0] at h ⊢
 rw [takeS_bad (show (e, ([] : List UInt8)).1 ≠ 0 from h0)]
 exact takeA g q c b p e n w h hB h0
theorem numS_take (s : St) : numS s = (if (takeS 8 s).2.1 = 0 then beNat (takeS 8 s).1 else 0, (takeS 8 s).2) := by
 unfold numS takeS
 by_cases h0 : s.1 = 0
 rw [if_pos h0, if_pos h0]
 by_cases h1 : s.2.length < 8
 rw [if_pos h1, if_pos h1]; rfl
 rw [if_neg h1, if_neg h1]; rfl
 rw [if_neg h0, if_neg h0]; simp [h0]
theorem Rdr.e {w : World} {g : Nat} {q : Option Addr} {c : Nat} {b : List UInt8} {s : St} (h : Rdr w g q c b s) : ∃ p : Nat, Bk w g [.slice q b.length c, .int .i64 (p : Int), .int .i64 (s.1 : Int)] ∧ p ≤ b.length ∧ (s.1 = 0 → s.2 = b.drop p) := by
 obtain ⟨p, e, h1, h2, h3, rfl⟩ := h.out
 exact ⟨p, h1, h2, fun h => by simp only at h; rw [h]; rfl⟩
theorem Rnumber_ok (g : Nat) (q : Option Addr) (c : Nat) (b : List UInt8) (s : St) (w : World) (h : Rdr w g q c b s) (hlen : b.length ≤ 1099511627776) :
   Ct Tryz.prog 79 #[.pointer (some ⟨g, 0, none⟩)] w (fun v w' => v = .int .u64 ((numS s).1 : Int) ∧ RdP w g q c b (numS s).2 w') := by
 refine Ct.enter [(0, .pointer (some ⟨g, 0, none⟩))] Tryz.func79 rfl rfl rfl rfl ?_
 rw [numS_take]
 refine C.seq (C.region (W.assign rfl rfl (W.nil (At.thenCode (C.seq (C.region (W.move rfl rfl ?_)))))))
 refine W.call Tryz.call82 rfl (Cod.Rtake_ok g q c b s 8 _ h hlen (by decide)) rfl ?_
 rintro v7 w7 ⟨ao7, c7, rfl, hN7, hP7⟩
 obtain ⟨p, hB7, _, _⟩ := hP7.rdr.e
 refine W.assign rfl rfl (W.nil (At.thenCode (C.seq (C.seq (C.region (W.move rfl rfl (W.nilCheck rfl rfl (W.fieldB (off := 2) (size := 1) (t := 3) (Fld.of (by kernel_rfl)) rfl rfl rfl ?_))))))))
 refine W.loadB rfl Tryz.underlying3 rfl (by assumption) rfl rfl ?_
 refine W.neqI rfl rfl rfl (W.nil (At.thenCode ?_))
 refine C.condD rfl (fun c12 => ?_) (fun c12 => ?_)
 refine C.seq (C.region (W.assign rfl rfl (W.nil (At.thenCode (C.ret (At.thenRet ?_))))))
 refine At.ret1 Tryz.results79 rfl ?_
 rw [if_neg (by omega)]
 exact ⟨rfl, hP7⟩
 have h0 : (takeS 8 s).2.1 = 0 := by omega
 obtain ⟨k1, k2, k3⟩ := takeS_ok h0
 have hl8 : (takeS 8 s).1.length = 8 := by rw [k3, List.length_take]; omega
 have hgv : getV (takeS 8 s).1 ((0 : Nat) : Int) 8 = beNat (takeS 8 s).1 := by
   rw [getV8 (by omega), List.drop_zero, List.take_of_length_le (by omega)]
 refine C.skip (At.thenCode (C.seq (C.region (W.move rfl rfl ?_))))
 have hgt := Words.RGet64_ok ao7 c7 (takeS 8 s).1 ((0 : Nat) : Int) _ hN7.1 (by omega) (by decide)
 rw [hgv] at hgt
 refine W.call Tryz.call62 rfl hgt rfl ?_
 rintro v15 w15 ⟨rfl, rfl⟩
 refine W.move rfl rfl (W.extract rfl rfl rfl (W.extract rfl rfl rfl (W.assign rfl rfl (W.assign rfl rfl (W.nil (At.thenCode (C.seq (C.region (W.move rfl rfl (W.assign rfl rfl (W.nil ?_)))))))))))
 refine At.thenCode (C.ret ?_)
 refine At.ret1 Tryz.results79 rfl ?_
 rw [if_pos h0]
 exact ⟨rfl, hP7⟩
theorem Rmost_ok (g : Nat) (q : Option Addr) (c : Nat) (b : List UInt8) (s : St) (m : Nat) (w : World) (h : Rdr w g q c b s) (hlen : b.length ≤ 1099511627776) (hm : m ≤ 9223372036854775807) :
   Ct Tryz.prog 78 #[.pointer (some ⟨g, 0, none⟩), .int .u64 (m : Int)] w (fun v w' => v = .int .i64 ((intS m s).1 : Int) ∧ RdP w g q c b (intS m s).2 w') := by
 refine Ct.enter [(0, .pointer (some ⟨g, 0, none⟩)), (1, .int .u64 (m : Int))] Tryz.func78 rfl rfl rfl rfl ?_
 refine C.seq (C.region (W.assign rfl rfl (W.nil (At.thenCode (C.seq (C.region (W.move rfl rfl ?_)))))))
 refine W.call Tryz.call79 rfl (Cod.Rnumber_ok _ _ _ _ _ _ (by assumption) (by assumption)) rfl ?_
 rintro v7 w7 ⟨rfl, hP7⟩
 have hr7 := hP7.rdr
 have hlt := numS_lt s
 refine W.assign rfl rfl (W.nil (At.thenCode (C.seq (C.seq (C.region (W.move rfl rfl (W.move rfl rfl ?_)))))))
 refine W.gtrU rfl rfl rfl ?_
 refine W.nil (At.thenCode ?_)
 refine C.condD rfl (fun c10 => ?_) (fun c10 => ?_)
 refine C.seq (C.region (W.move rfl rfl ?_))
 refine W.call Tryz.call106 rfl (Cod.Rfail_ok _ _ _ _ _ _ _ (by assumption) (by decide) (by decide)) rfl ?_
 rintro v12 w12 ⟨rfl, hP12⟩
 refine W.nil (At.thenCode (C.seq (C.region (W.assign rfl rfl (W.nil (At.thenCode (C.ret (At.thenRet ?_))))))))
 refine At.ret1 Tryz.results78 rfl ?_
 have e : intS m s = (0, failS 2 (numS s).2) := by unfold intS; rw [if_pos (by omega)]
 rw [e]
 exact ⟨rfl, hP7.trans hP12⟩
 refine C.skip (At.thenCode (C.seq (C.region (W.move rfl rfl ?_))))
 refine W.convI rfl Tryz.underlying83 Tryz.underlying3 (by omega) rfl ?_
 refine W.assign rfl rfl (W.nil (At.thenCode (C.ret ?_)))
 refine At.ret1 Tryz.results78 rfl ?_
 have e : intS m s = numS s := by unfold intS; rw [if_neg (by omega)]
 rw [e]
 exact ⟨rfl, hP7⟩
theorem Rsize_ok (g : Nat) (q : Option Addr) (c : Nat) (b : List UInt8) (s : St) (n : Nat) (w : World) (h : Rdr w g q c b s) (hlen : b.length ≤ 1099511627776) :
   Ct Tryz.prog 80 #[.pointer (some ⟨g, 0, none⟩), .int .i64 (n : Int)] w (fun v w' => v = .int .i64 ((sizeS n s).1 : Int) ∧ RdP w g q c b (sizeS n s).2 w') := by
 refine Ct.enter [(0, .pointer (some ⟨g, 0, none⟩)), (1, .int .i64 (n : Int))] Tryz.func80 rfl rfl rfl rfl ?_
 refine C.seq (C.region (W.assign rfl rfl (W.nil (At.thenCode (C.seq (C.region (W.move rfl rfl ?_)))))))
 refine W.call Tryz.call78 rfl (Cod.Rmost_ok g q c b s 1048576 _ h hlen (by decide)) rfl ?_
 rintro v7 w7 ⟨rfl, hP7⟩
 have hr7 := hP7.rdr
 refine W.assign rfl rfl (W.nil (At.thenCode (C.seq (C.seq (C.region (W.move rfl rfl (W.eqlI rfl rfl rfl (W.move rfl rfl ?_))))))))
 refine W.splitD (fun g10 => ?_) (fun g10 => ?_)
 refine W.wants rfl rfl rfl rfl (W.move rfl rfl (W.wants rfl rfl rfl rfl (W.neqI rfl rfl rfl (W.pickT rfl rfl rfl (W.nil (At.thenCode ?_))))))
 refine C.condD rfl (fun c13 => ?_) (fun c13 => ?_)
 refine C.region (W.move rfl rfl ?_)
 refine W.call Tryz.call106 rfl (Cod.Rfail_ok _ _ _ _ _ _ _ (by assumption) (by decide) (by decide)) rfl ?_
 rintro v15 w15 ⟨rfl, hP15⟩
 refine W.nil (At.thenCode (C.seq (C.region (W.move rfl rfl (W.assign rfl rfl (W.nil (At.thenCode (C.ret ?_))))))))
 refine At.ret1 Tryz.results80 rfl ?_
 first
 | (have e : sizeS n s = ((intS 1048576 s).1, failS 2 (intS 1048576 s).2) := by
      have hc : n = 0 ∧ 0 < (intS 1048576 s).1 := ⟨by omega, by omega⟩
      unfold sizeS; rw [if_pos hc]
    rw [e]
    exact ⟨rfl, hP7.trans hP15⟩)
 | (have e : sizeS n s = intS 1048576 s := by
      have hc : ¬ (n = 0 ∧ 0 < (intS 1048576 s).1) := by rintro ⟨h1, h2⟩; first | omega | (simp_all; done)
      unfold sizeS; rw [if_neg hc]
    rw [e]
    exact ⟨rfl, hP7⟩)
 refine C.skip (At.thenCode (C.seq (C.region (W.move rfl rfl (W.assign rfl rfl (W.nil (At.thenCode (C.ret ?_))))))))
 refine At.ret1 Tryz.results80 rfl ?_
 first
 | (have e : sizeS n s = ((intS 1048576 s).1, failS 2 (intS 1048576 s).2) := by
      have hc : n = 0 ∧ 0 < (intS 1048576 s).1 := ⟨by omega, by omega⟩
      unfold sizeS; rw [if_pos hc]
    rw [e]
    exact ⟨rfl, hP7.trans hP15⟩)
 | (have e : sizeS n s = intS 1048576 s := by
      have hc : ¬ (n = 0 ∧ 0 < (intS 1048576 s).1) := by rintro ⟨h1, h2⟩; first | omega | (simp_all; done)
      unfold sizeS; rw [if_neg hc]
    rw [e]
    exact ⟨rfl, hP7⟩)
 refine W.skips rfl rfl rfl rfl rfl rfl (W.skips rfl rfl rfl rfl rfl rfl (W.pickF rfl rfl rfl (W.nil (At.thenCode ?_))))
 refine C.condF rfl ?_
 refine C.skip (At.thenCode (C.seq (C.region (W.move rfl rfl (W.assign rfl rfl (W.nil (At.thenCode (C.ret ?_))))))))
 refine At.ret1 Tryz.results80 rfl ?_
 first
 | (have e : sizeS n s = ((intS 1048576 s).1, failS 2 (intS 1048576 s).2) := by
      have hc : n = 0 ∧ 0 < (intS 1048576 s).1 := ⟨by omega, by omega⟩
      unfold sizeS; rw [if_pos hc]
    rw [e]
    exact ⟨rfl, hP7.trans hP15⟩)
 | (have e : sizeS n s = intS 1048576 s := by
      have hc : ¬ (n = 0 ∧ 0 < (intS 1048576 s).1) := by rintro ⟨h1, h2⟩; first | omega | (simp_all; done)
      unfold sizeS; rw [if_neg hc]
    rw [e]
    exact ⟨rfl, hP7⟩)
theorem endA (g : Nat) (q : Option Addr) (c : Nat) (b : List UInt8) (p e : Nat) (w : World) (hB : Bk w g [.slice q b.length c, .int .i64 (p : Int), .int .i64 (e : Int)]) (he : e ≠ 0) :
   Ct Tryz.prog 83 #[.pointer (some ⟨g, 0, none⟩)] w (fun v w' => v = .int .i64 (e : Int) ∧ Chg (fun k => k = g) w w') := by
 refine Ct.enter [(0, .pointer (some ⟨g, 0, none⟩))] Tryz.func83 rfl rfl rfl rfl ?_
 refine C.seq (C.region (W.assign rfl rfl (W.nil (At.thenCode (C.seq (C.seq ?_))))))
 refine C.regionAny 17 (E_ (.pointer (some ⟨g, 0, none⟩)) :: E_ (.pointer (some ⟨g, 0, none⟩)) :: E_ (.pointer (some ⟨g, 2, none⟩)) :: E_ (.int .i64 (e : Int)) :: E_ (.bool false) :: E_ (.bool false) :: E_ (undef) :: E_ (undef) :: E_ (undef) :: E_ (undef) :: E_ (undef) :: E_ (undef) :: E_ (undef) :: E_ (undef) :: E_ (undef) :: E_ (undef) :: E_ (.bool false) :: []) [(0, .pointer (some ⟨g, 0, none⟩))] [] (sc rfl (Sub.nil)) (Sub.nil) (sc rfl (Sub.nil)) (by kernel_rfl) rfl rfl rfl (sN (sN (sN (sN (sN (sN (sN (sN (sN (sN (sN (sN (sN (sN (sN (sN (sN (trivial)))))))))))))))))) ?_ ?_
 refine And.intro (mB rfl rfl (fun _ => rfl) rfl) ?_
 refine And.intro ?_ ?_
 intro L_ w1 hX_ hs_ hf_ hd_
 obtain ⟨_, e0, rfl⟩ := hd_ 0 rfl
 exact W.s1 (e0 _ rfl) (W.nilCheck rfl rfl (W.e0 rfl))
 refine And.intro ?_ ?_
 intro L_ w1 hX_ hs_ hf_ hd_
 obtain ⟨_, e1, rfl⟩ := hd_ 1 rfl
 exact W.s1 (e1 _ rfl) (W.fieldB (off := 2) (size := 1) (t := 3) (Fld.of (by kernel_rfl)) rfl rfl rfl (W.e0 rfl))
 refine And.intro ?_ ?_
 intro L_ w1 hX_ hs_ hf_ hd_
 obtain ⟨_, e2, rfl⟩ := hd_ 2 rfl
 refine W.s1 (e2 _ rfl) ?_
 refine W.loadB rfl Tryz.underlying3 rfl (Bk.ext (by assumption) hX_) rfl rfl ?_
 exact W.e0 rfl
 refine And.intro ?_ ?_
 intro L_ w1 hX_ hs_ hf_ hd_
 obtain ⟨_, e3, rfl⟩ := hd_ 3 rfl
 refine W.s1 (e3 _ rfl) (W.eqlI rfl rfl rfl ?_)
 refine W.eqv (bF (by omega)) ?_
 exact W.e0 rfl
 refine And.intro ?_ ?_
 intro L_ w1 hX_ hs_ hf_ hd_
 obtain ⟨_, e4, rfl⟩ := hd_ 4 rfl
 exact W.s1 (e4 _ rfl) (W.move rfl rfl (W.e0 rfl))
 refine And.intro ?_ ?_
 intro L_ w1 hX_ hs_ hf_ hd_
 obtain ⟨_, e5, rfl⟩ := hd_ 5 rfl
 exact W.s1 (e5 _ rfl) (W.skips rfl rfl rfl rfl rfl rfl (W.e0 rfl))
 refine And.intro ?_ ?_
 intro L_ w1 hX_ hs_ hf_ hd_
 obtain ⟨_, e5, rfl⟩ := hd_ 5 rfl
 exact W.s1 (e5 _ rfl) (W.skips rfl rfl rfl rfl rfl rfl (W.e0 rfl))
 refine And.intro ?_ ?_
 intro L_ w1 hX_ hs_ hf_ hd_
 obtain ⟨_, e5, rfl⟩ := hd_ 5 rfl
 exact W.s1 (e5 _ rfl) (W.skips rfl rfl rfl rfl rfl rfl (W.e0 rfl))
 refine And.intro ?_ ?_
 intro L_ w1 hX_ hs_ hf_ hd_
 obtain ⟨_, e5, rfl⟩ := hd_ 5 rfl
 exact W.s1 (e5 _ rfl) (W.skips rfl rfl rfl rfl rfl rfl (W.e0 rfl))
 refine And.intro ?_ ?_
 intro L_ w1 hX_ hs_ hf_ hd_
 obtain ⟨_, e5, rfl⟩ := hd_ 5 rfl
 exact W.s1 (e5 _ rfl) (W.skips rfl rfl rfl rfl rfl rfl (W.e0 rfl))
 refine And.intro ?_ ?_
 intro L_ w1 hX_ hs_ hf_ hd_
 obtain ⟨_, e5, rfl⟩ := hd_ 5 rfl
 exact W.s1 (e5 _ rfl) (W.skips rfl rfl rfl rfl rfl rfl (W.e0 rfl))
 refine And.intro ?_ ?_
 intro L_ w1 hX_ hs_ hf_ hd_
 obtain ⟨_, e5, rfl⟩ := hd_ 5 rfl
 exact W.s1 (e5 _ rfl) (W.skips rfl rfl rfl rfl rfl rfl (W.e0 rfl))
 refine And.intro ?_ ?_
 intro L_ w1 hX_ hs_ hf_ hd_
 obtain ⟨_, e5, rfl⟩ := hd_ 5 rfl
 exact W.s1 (e5 _ rfl) (W.skips rfl rfl rfl rfl rfl rfl (W.e0 rfl))
 refine And.intro ?_ ?_
 intro L_ w1 hX_ hs_ hf_ hd_
 obtain ⟨_, e5, rfl⟩ := hd_ 5 rfl
 exact W.s1 (e5 _ rfl) (W.skips rfl rfl rfl rfl rfl rfl (W.e0 rfl))
 refine And.intro ?_ ?_
 intro L_ w1 hX_ hs_ hf_ hd_
 obtain ⟨_, e5, rfl⟩ := hd_ 5 rfl
 exact W.s1 (e5 _ rfl) (W.skips rfl rfl rfl rfl rfl rfl (W.e0 rfl))
 refine And.intro ?_ ?_
 intro L_ w1 hX_ hs_ hf_ hd_
 obtain ⟨_, e5, rfl⟩ := hd_ 5 rfl
 obtain ⟨v15, e15, r15⟩ := hd_ 15 rfl
 obtain rfl : (undef : Value) = v15 := Eq.symm r15
 exact W.s2 (e5 _ rfl) (e15 _ rfl) (W.pickF rfl rfl rfl (W.e0 rfl))
 exact trivial
 intro L_ w1 hX1 hs_ hv_
 obtain ⟨_, e16, rfl⟩ := hv_ 16 (by decide)
 refine W.weaken (l' := [(19, _), (0, _)]) (sc (e16 _ rfl) (sc (hs_ _ _ rfl) (Sub.nil))) ?_
 refine W.nil (At.thenCode ?_)
 refine C.condF rfl ?_
 refine C.skip (At.thenCode (C.seq (C.region (W.move rfl rfl (W.nilCheck rfl rfl (W.fieldB (off := 2) (size := 1) (t := 3) (Fld.of (by kernel_rfl)) rfl rfl rfl ?_))))))
 have hB1 := hB.ext hX1
 refine W.loadB rfl Tryz.underlying3 rfl (by assumption) rfl rfl ?_
 refine W.assign rfl rfl (W.nil (At.thenCode (C.ret ?_)))
 refine At.ret1 Tryz.results83 rfl ?_
 exact ⟨rfl, Chg.mono hX1 fun k hk => hk.elim⟩
theorem endB (g : Nat) (q : Option Addr) (c : Nat) (b : List UInt8) (w : World) (hB : Bk w g [.slice q b.length c, .int .i64 (b.length : Int), .int .i64 0]) :
   Ct Tryz.prog 83 #[.pointer (some ⟨g, 0, none⟩)] w (fun v w' => v = .int .i64 0 ∧ Chg (fun k => k = g) w w') := by
 refine Ct.enter [(0, .pointer (some ⟨g, 0, none⟩))] Tryz.func83 rfl rfl rfl rfl ?_
 refine C.seq (C.region (W.assign rfl rfl (W.nil (At.thenCode (C.seq (C.seq ?_))))))
 refine C.regionAny 17 (E_ (.pointer (some ⟨g, 0, none⟩)) :: E_ (.pointer (some ⟨g, 0, none⟩)) :: E_ (.pointer (some ⟨g, 2, none⟩)) :: E_ (.int .i64 0) :: E_ (.bool true) :: E_ (.bool true) :: E_ (.pointer (some ⟨g, 0, none⟩)) :: E_ (.pointer (some ⟨g, 0, none⟩)) :: E_ (.pointer (some ⟨g, 1, none⟩)) :: E_ (.int .i64 (b.length : Int)) :: E_ (.pointer (some ⟨g, 0, none⟩)) :: E_ (.pointer (some ⟨g, 0, none⟩)) :: E_ (.pointer (some ⟨g, 0, none⟩)) :: E_ (.slice q b.length c) :: E_ (.int .i64 (b.length : Int)) :: E_ (.bool false) :: E_ (.bool false) :: []) [(0, .pointer (some ⟨g, 0, none⟩))] [] (sc rfl (Sub.nil)) (Sub.nil) (sc rfl (Sub.nil)) (by kernel_rfl) rfl rfl rfl (sN (sN (sN (sN (sN (sN (sN (sN (sN (sN (sN (sN (sN (sN (sN (sN (sN (trivial)))))))))))))))))) ?_ ?_
 refine And.intro (mB rfl rfl (fun _ => rfl) rfl) ?_
 refine And.intro ?_ ?_
 intro L_ w1 hX_ hs_ hf_ hd_
 obtain ⟨_, e0, rfl⟩ := hd_ 0 rfl
 exact W.s1 (e0 _ rfl) (W.nilCheck rfl rfl (W.e0 rfl))
 refine And.intro ?_ ?_
 intro L_ w1 hX_ hs_ hf_ hd_
 obtain ⟨_, e1, rfl⟩ := hd_ 1 rfl
 exact W.s1 (e1 _ rfl) (W.fieldB (off := 2) (size := 1) (t := 3) (Fld.of (by kernel_rfl)) rfl rfl rfl (W.e0 rfl))
 refine And.intro ?_ ?_
 intro L_ w1 hX_ hs_ hf_ hd_
 obtain ⟨_, e2, rfl⟩ := hd_ 2 rfl
 refine W.s1 (e2 _ rfl) ?_
 refine W.loadB rfl Tryz.underlying3 rfl (Bk.ext (by assumption) hX_) rfl rfl ?_
 exact W.e0 rfl
 refine And.intro ?_ ?_
 intro L_ w1 hX_ hs_ hf_ hd_
 obtain ⟨_, e3, rfl⟩ := hd_ 3 rfl
 refine W.s1 (e3 _ rfl) (W.eqlI rfl rfl rfl ?_)
 refine W.eqv (bT (rfl)) ?_
 exact W.e0 rfl
 refine And.intro ?_ ?_
 intro L_ w1 hX_ hs_ hf_ hd_
 obtain ⟨_, e4, rfl⟩ := hd_ 4 rfl
 exact W.s1 (e4 _ rfl) (W.move rfl rfl (W.e0 rfl))
 refine And.intro ?_ ?_
 intro L_ w1 hX_ hs_ hf_ hd_
 obtain ⟨_, e5, rfl⟩ := hd_ 5 rfl
 exact W.s2 (hs_ 0 _ rfl) (e5 _ rfl) (W.wants rfl rfl rfl rfl (W.move rfl rfl (W.e0 rfl)))
 refine And.intro ?_ ?_
 intro L_ w1 hX_ hs_ hf_ hd_
 obtain ⟨_, e6, rfl⟩ := hd_ 6 rfl
 obtain ⟨_, e5, rfl⟩ := hd_ 5 rfl
 exact W.s2 (e6 _ rfl) (e5 _ rfl) (W.wants rfl rfl rfl rfl (W.nilCheck rfl rfl (W.e0 rfl)))
 refine And.intro ?_ ?_
 intro L_ w1 hX_ hs_ hf_ hd_
 obtain ⟨_, e7, rfl⟩ := hd_ 7 rfl
 obtain ⟨_, e5, rfl⟩ := hd_ 5 rfl
 exact W.s2 (e7 _ rfl) (e5 _ rfl) (W.wants rfl rfl rfl rfl (W.fieldB (off := 1) (size := 1) (t := 3) (Fld.of (by kernel_rfl)) rfl rfl rfl (W.e0 rfl)))
 refine And.intro ?_ ?_
 intro L_ w1 hX_ hs_ hf_ hd_
 obtain ⟨_, e8, rfl⟩ := hd_ 8 rfl
 obtain ⟨_, e5, rfl⟩ := hd_ 5 rfl
 refine W.s2 (e8 _ rfl) (e5 _ rfl) (W.wants rfl rfl rfl rfl ?_)
 refine W.loadB rfl Tryz.underlying3 rfl (Bk.ext (by assumption) hX_) rfl rfl ?_
 exact W.e0 rfl
 refine And.intro ?_ ?_
 intro L_ w1 hX_ hs_ hf_ hd_
 obtain ⟨_, e5, rfl⟩ := hd_ 5 rfl
 exact W.s2 (hs_ 0 _ rfl) (e5 _ rfl) (W.wants rfl rfl rfl rfl (W.move rfl rfl (W.e0 rfl)))
 refine And.intro ?_ ?_
 intro L_ w1 hX_ hs_ hf_ hd_
 obtain ⟨_, e10, rfl⟩ := hd_ 10 rfl
 obtain ⟨_, e5, rfl⟩ := hd_ 5 rfl
 exact W.s2 (e10 _ rfl) (e5 _ rfl) (W.wants rfl rfl rfl rfl (W.nilCheck rfl rfl (W.e0 rfl)))
 refine And.intro ?_ ?_
 intro L_ w1 hX_ hs_ hf_ hd_
 obtain ⟨_, e11, rfl⟩ := hd_ 11 rfl
 obtain ⟨_, e5, rfl⟩ := hd_ 5 rfl
 exact W.s2 (e11 _ rfl) (e5 _ rfl) (W.wants rfl rfl rfl rfl (W.fieldB (off := 0) (size := 1) (t := 22) (Fld.of (by kernel_rfl)) rfl rfl rfl (W.e0 rfl)))
 refine And.intro ?_ ?_
 intro L_ w1 hX_ hs_ hf_ hd_
 obtain ⟨_, e12, rfl⟩ := hd_ 12 rfl
 obtain ⟨_, e5, rfl⟩ := hd_ 5 rfl
 refine W.s2 (e12 _ rfl) (e5 _ rfl) (W.wants rfl rfl rfl rfl ?_)
 refine W.loadB rfl Tryz.underlying22 rfl (Bk.ext (by assumption) hX_) rfl rfl ?_
 exact W.e0 rfl
 refine And.intro ?_ ?_
 intro L_ w1 hX_ hs_ hf_ hd_
 obtain ⟨_, e13, rfl⟩ := hd_ 13 rfl
 obtain ⟨_, e5, rfl⟩ := hd_ 5 rfl
 exact W.s2 (e13 _ rfl) (e5 _ rfl) (W.wants rfl rfl rfl rfl (W.lenS rfl Tryz.underlying22 rfl (W.e0 rfl)))
 refine And.intro ?_ ?_
 intro L_ w1 hX_ hs_ hf_ hd_
 obtain ⟨_, e9, rfl⟩ := hd_ 9 rfl
 obtain ⟨_, e14, rfl⟩ := hd_ 14 rfl
 obtain ⟨_, e5, rfl⟩ := hd_ 5 rfl
 refine W.s3 (e9 _ rfl) (e14 _ rfl) (e5 _ rfl) (W.wants rfl rfl rfl rfl (W.neqI rfl rfl rfl ?_))
 refine W.eqv (bF (fun h => h rfl)) ?_
 exact W.e0 rfl
 refine And.intro ?_ ?_
 intro L_ w1 hX_ hs_ hf_ hd_
 obtain ⟨_, e5, rfl⟩ := hd_ 5 rfl
 obtain ⟨_, e15, rfl⟩ := hd_ 15 rfl
 exact W.s2 (e5 _ rfl) (e15 _ rfl) (W.pickT rfl rfl rfl (W.e0 rfl))
 exact trivial
 intro L_ w1 hX1 hs_ hv_
 obtain ⟨_, e16, rfl⟩ := hv_ 16 (by decide)
 refine W.weaken (l' := [(19, _), (0, _)]) (sc (e16 _ rfl) (sc (hs_ _ _ rfl) (Sub.nil))) ?_
 refine W.nil (At.thenCode ?_)
 refine C.condF rfl ?_
 refine C.skip (At.thenCode (C.seq (C.region (W.move rfl rfl (W.nilCheck rfl rfl (W.fieldB (off := 2) (size := 1) (t := 3) (Fld.of (by kernel_rfl)) rfl rfl rfl ?_))))))
 have hB1 := hB.ext hX1
 refine W.loadB rfl Tryz.underlying3 rfl (by assumption) rfl rfl ?_
 refine W.assign rfl rfl (W.nil (At.thenCode (C.ret ?_)))
 refine At.ret1 Tryz.results83 rfl ?_
 exact ⟨rfl, Chg.mono hX1 fun k hk => hk.elim⟩
theorem endC (g : Nat) (q : Option Addr) (c : Nat) (b : List UInt8) (p : Nat) (w : World) (h : Rdr w g q c b (0, b.drop p)) (hB : Bk w g [.slice q b.length c, .int .i64 (p : Int), .int .i64 0]) (hp : p < b.length) :
   Ct Tryz.prog 83 #[.pointer (some ⟨g, 0, none⟩)] w (fun v w' => v = .int .i64 2 ∧ Chg (fun k => k = g) w w') := by
 refine Ct.enter [(0, .pointer (some ⟨g, 0, none⟩))] Tryz.func83 rfl rfl rfl rfl ?_
 refine C.seq (C.region (W.assign rfl rfl (W.nil (At.thenCode (C.seq (C.seq ?_))))))
 refine C.regionAny 17 (E_ (.pointer (some ⟨g, 0, none⟩)) :: E_ (.pointer (some ⟨g, 0, none⟩)) :: E_ (.pointer (some ⟨g, 2, none⟩)) :: E_ (.int .i64 0) :: E_ (.bool true) :: E_ (.bool true) :: E_ (.pointer (some ⟨g, 0, none⟩)) :: E_ (.pointer (some ⟨g, 0, none⟩)) :: E_ (.pointer (some ⟨g, 1, none⟩)) :: E_ (.int .i64 (p : Int)) :: E_ (.pointer (some ⟨g, 0, none⟩)) :: E_ (.pointer (some ⟨g, 0, none⟩)) :: E_ (.pointer (some ⟨g, 0, none⟩)) :: E_ (.slice q b.length c) :: E_ (.int .i64 (b.length : Int)) :: E_ (.bool true) :: E_ (.bool true) :: []) [(0, .pointer (some ⟨g, 0, none⟩))] [] (sc rfl (Sub.nil)) (Sub.nil) (sc rfl (Sub.nil)) (by kernel_rfl) rfl rfl rfl (sN (sN (sN (sN (sN (sN (sN (sN (sN (sN (sN (sN (sN (sN (sN (sN (sN (trivial)))))))))))))))))) ?_ ?_
 refine And.intro (mB rfl rfl (fun _ => rfl) rfl) ?_
 refine And.intro ?_ ?_
 intro L_ w1 hX_ hs_ hf_ hd_
 obtain ⟨_, e0, rfl⟩ := hd_ 0 rfl
 exact W.s1 (e0 _ rfl) (W.nilCheck rfl rfl (W.e0 rfl))
 refine And.intro ?_ ?_
 intro L_ w1 hX_ hs_ hf_ hd_
 obtain ⟨_, e1, rfl⟩ := hd_ 1 rfl
 exact W.s1 (e1 _ rfl) (W.fieldB (off := 2) (size := 1) (t := 3) (Fld.of (by kernel_rfl)) rfl rfl rfl (W.e0 rfl))
 refine And.intro ?_ ?_
 intro L_ w1 hX_ hs_ hf_ hd_
 obtain ⟨_, e2, rfl⟩ := hd_ 2 rfl
 refine W.s1 (e2 _ rfl) ?_
 refine W.loadB rfl Tryz.underlying3 rfl (Bk.ext (by assumption) hX_) rfl rfl ?_
 exact W.e0 rfl
 refine And.intro ?_ ?_
 intro L_ w1 hX_ hs_ hf_ hd_
 obtain ⟨_, e3, rfl⟩ := hd_ 3 rfl
 refine W.s1 (e3 _ rfl) (W.eqlI rfl rfl rfl ?_)
 refine W.eqv (bT (rfl)) ?_
 exact W.e0 rfl
 refine And.intro ?_ ?_
 intro L_ w1 hX_ hs_ hf_ hd_
 obtain ⟨_, e4, rfl⟩ := hd_ 4 rfl
 exact W.s1 (e4 _ rfl) (W.move rfl rfl (W.e0 rfl))
 refine And.intro ?_ ?_
 intro L_ w1 hX_ hs_ hf_ hd_
 obtain ⟨_, e5, rfl⟩ := hd_ 5 rfl
 exact W.s2 (hs_ 0 _ rfl) (e5 _ rfl) (W.wants rfl rfl rfl rfl (W.move rfl rfl (W.e0 rfl)))
 refine And.intro ?_ ?_
 intro L_ w1 hX_ hs_ hf_ hd_
 obtain ⟨_, e6, rfl⟩ := hd_ 6 rfl
 obtain ⟨_, e5, rfl⟩ := hd_ 5 rfl
 exact W.s2 (e6 _ rfl) (e5 _ rfl) (W.wants rfl rfl rfl rfl (W.nilCheck rfl rfl (W.e0 rfl)))
 refine And.intro ?_ ?_
 intro L_ w1 hX_ hs_ hf_ hd_
 obtain ⟨_, e7, rfl⟩ := hd_ 7 rfl
 obtain ⟨_, e5, rfl⟩ := hd_ 5 rfl
 exact W.s2 (e7 _ rfl) (e5 _ rfl) (W.wants rfl rfl rfl rfl (W.fieldB (off := 1) (size := 1) (t := 3) (Fld.of (by kernel_rfl)) rfl rfl rfl (W.e0 rfl)))
 refine And.intro ?_ ?_
 intro L_ w1 hX_ hs_ hf_ hd_
 obtain ⟨_, e8, rfl⟩ := hd_ 8 rfl
 obtain ⟨_, e5, rfl⟩ := hd_ 5 rfl
 refine W.s2 (e8 _ rfl) (e5 _ rfl) (W.wants rfl rfl rfl rfl ?_)
 refine W.loadB rfl Tryz.underlying3 rfl (Bk.ext (by assumption) hX_) rfl rfl ?_
 exact W.e0 rfl
 refine And.intro ?_ ?_
 intro L_ w1 hX_ hs_ hf_ hd_
 obtain ⟨_, e5, rfl⟩ := hd_ 5 rfl
 exact W.s2 (hs_ 0 _ rfl) (e5 _ rfl) (W.wants rfl rfl rfl rfl (W.move rfl rfl (W.e0 rfl)))
 refine And.intro ?_ ?_
 intro L_ w1 hX_ hs_ hf_ hd_
 obtain ⟨_, e10, rfl⟩ := hd_ 10 rfl
 obtain ⟨_, e5, rfl⟩ := hd_ 5 rfl
 exact W.s2 (e10 _ rfl) (e5 _ rfl) (W.wants rfl rfl rfl rfl (W.nilCheck rfl rfl (W.e0 rfl)))
 refine And.intro ?_ ?_
 intro L_ w1 hX_ hs_ hf_ hd_
 obtain ⟨_, e11, rfl⟩ := hd_ 11 rfl
 obtain ⟨_, e5, rfl⟩ := hd_ 5 rfl
 exact W.s2 (e11 _ rfl) (e5 _ rfl) (W.wants rfl rfl rfl rfl (W.fieldB (off := 0) (size := 1) (t := 22) (Fld.of (by kernel_rfl)) rfl rfl rfl (W.e0 rfl)))
 refine And.intro ?_ ?_
 intro L_ w1 hX_ hs_ hf_ hd_
 obtain ⟨_, e12, rfl⟩ := hd_ 12 rfl
 obtain ⟨_, e5, rfl⟩ := hd_ 5 rfl
 refine W.s2 (e12 _ rfl) (e5 _ rfl) (W.wants rfl rfl rfl rfl ?_)
 refine W.loadB rfl Tryz.underlying22 rfl (Bk.ext (by assumption) hX_) rfl rfl ?_
 exact W.e0 rfl
 refine And.intro ?_ ?_
 intro L_ w1 hX_ hs_ hf_ hd_
 obtain ⟨_, e13, rfl⟩ := hd_ 13 rfl
 obtain ⟨_, e5, rfl⟩ := hd_ 5 rfl
 exact W.s2 (e13 _ rfl) (e5 _ rfl) (W.wants rfl rfl rfl rfl (W.lenS rfl Tryz.underlying22 rfl (W.e0 rfl)))
 refine And.intro ?_ ?_
 intro L_ w1 hX_ hs_ hf_ hd_
 obtain ⟨_, e9, rfl⟩ := hd_ 9 rfl
 obtain ⟨_, e14, rfl⟩ := hd_ 14 rfl
 obtain ⟨_, e5, rfl⟩ := hd_ 5 rfl
 refine W.s3 (e9 _ rfl) (e14 _ rfl) (e5 _ rfl) (W.wants rfl rfl rfl rfl (W.neqI rfl rfl rfl ?_))
 refine W.eqv (bT (by omega)) ?_
 exact W.e0 rfl
 refine And.intro ?_ ?_
 intro L_ w1 hX_ hs_ hf_ hd_
 obtain ⟨_, e5, rfl⟩ := hd_ 5 rfl
 obtain ⟨_, e15, rfl⟩ := hd_ 15 rfl
 exact W.s2 (e5 _ rfl) (e15 _ rfl) (W.pickT rfl rfl rfl (W.e0 rfl))
 exact trivial
 intro L_ w1 hX1 hs_ hv_
 obtain ⟨_, e16, rfl⟩ := hv_ 16 (by decide)
 refine W.weaken (l' := [(19, _), (0, _)]) (sc (e16 _ rfl) (sc (hs_ _ _ rfl) (Sub.nil))) ?_
 refine W.nil (At.thenCode ?_)
 refine C.condT rfl ?_
 refine C.region (W.move rfl rfl ?_)
 have h1 := h.ext hX1
 refine W.call Tryz.call106 rfl (Cod.Rfail_ok _ _ _ _ _ _ _ (by assumption) (by decide) (by decide)) rfl ?_
 rintro v21 w21 ⟨rfl, hP21⟩
 obtain ⟨p2, hB2, _, _⟩ := hP21.rdr.e
 refine W.nil (At.thenCode (C.seq (C.region (W.move rfl rfl (W.nilCheck rfl rfl (W.fieldB (off := 2) (size := 1) (t := 3) (Fld.of (by kernel_rfl)) rfl rfl rfl ?_))))))
 refine W.loadB rfl Tryz.underlying3 rfl (by assumption) rfl rfl ?_
 refine W.assign rfl rfl (W.nil (At.thenCode (C.ret ?_)))
 refine At.ret1 Tryz.results83 rfl ?_
 exact ⟨rfl, (Chg.mono hX1 fun k hk => hk.elim).trans hP21.chg⟩
theorem Rend_ok (g : Nat) (q : Option Addr) (c : Nat) (b : List UInt8) (s : St) (w : World) (h : Rdr w g q c b s) :
   Ct Tryz.prog 83 #[.pointer (some ⟨g, 0, none⟩)] w (fun v w' => v = .int .i64 (overS s : Int) ∧ Chg (fun k => k = g) w w') := by
 obtain ⟨p, e, hB, hp, he, rfl⟩ := h.out
 by_cases h0 : e = 0
 subst h0
 rw [if_pos rfl] at h ⊢
 by_cases hs : p = b.length
 subst hs
 have e : overS (0, b.drop b.length) = 0 := by unfold overS; simp
 rw [e]
 exact endB g q c b w hB
 have hne : b.drop p ≠ [] := by intro hc; have := congrArg List.length hc; rw [List.length_drop] at this; simp at this; omega
 have e : overS (0, b.drop p) = 2 := by unfold overS; simp [hne]
 rw [e]
 exact endC g q c b p w h hB (by omega)
 rw [if_neg h0] at h ⊢
 have e' : overS (e, ([] : List UInt8)) = e := by unfold overS; simp [h0]
 rw [e']
 exact endA g q c b p e w hB h0
theorem key_fill {xs : List UInt8} {i : Nat} (h : xs.length ≤ 32) (hi : i < xs.length) (pre : List Value) : (pre ++ (fillB (xs ++ List.replicate (32 - xs.length) 0) 32 i).map byteV).set (pre.length + i) (byteV (xs[i]'hi)) = pre ++ (fillB (xs ++ List.replicate (32 - xs.length) 0) 32 (i + 1)).map byteV := by
 rw [List.set_append_right _ _ (by omega), show pre.length + i - pre.length = i by omega]
 have hl : (xs ++ List.replicate (32 - xs.length) (0 : UInt8)).length = 32 := by simp; omega
 have := fillB_setV hl (show i < 32 by omega)
 rw [List.getElem_append_left hi] at this
 rw [this]
theorem key_full {xs : List UInt8} (h : xs.length ≤ 32) : fillB (xs ++ List.replicate (32 - xs.length) 0) 32 xs.length = xs ++ List.replicate (32 - xs.length) 0 := by
 unfold fillB
 rw [List.take_left]
theorem Rkey_ok (g : Nat) (q : Option Addr) (c : Nat) (b : List UInt8) (s : St) (w : World) (h : Rdr w g q c b s) (hlen : b.length ≤ 1099511627776) :
   Ct Tryz.prog 81 #[.pointer (some ⟨g, 0, none⟩)] w (fun v w' => v = .agg ((keyS s).1.map byteV).toArray ∧ RdP w g q c b (keyS s).2 w') := by
 refine Ct.enter [(0, .pointer (some ⟨g, 0, none⟩))] Tryz.func81 rfl rfl rfl rfl ?_
 have hgl := h.lt
 have hkl := takeS_len 32 s
 have hk32 := keyS_len s
 obtain ⟨xs, hxs⟩ : ∃ xs, xs = (takeS 32 s).1 := ⟨_, rfl⟩
 have hks : keyS s = (xs ++ List.replicate (32 - xs.length) 0, (takeS 32 s).2) := by rw [hxs]; rfl
 rw [← hxs] at hkl
 rw [hks] at hk32 ⊢
 refine C.seq (C.region ?_)
 refine W.alloc (z := .agg Z32.toArray) Z32 (by kernel_rfl) rfl rfl ?_
 intro g2 w2 hg2 hX2 hB2
 refine W.nil (At.thenCode (C.seq (C.region ?_)))
 refine W.alloc (z := .agg Z32.toArray) Z32 (by kernel_rfl) rfl rfl ?_
 intro g3 w3 hg3 hX3 hB3
 have hX3a := hX2.ext hX3
 have h3 := h.ext hX3a
 have hB2a := hB2.ext hX3
 have hl2 := hB2.lt
 refine W.nil (At.thenCode (C.seq (C.region (W.move rfl rfl ?_))))
 refine W.call Tryz.call82 rfl (Cod.Rtake_ok g q c b s 32 _ h3 hlen (by decide)) rfl ?_
 rintro v7 w7 ⟨ao7, c7, rfl, hN7, hP7⟩
 rw [← hxs] at hN7 ⊢
 have hB3b := hB3.chg hP7.chg (by omega)
 have hB2b := hB2a.chg hP7.chg (by omega)
 have hfz : Z32 = (fillB (xs ++ List.replicate (32 - xs.length) 0) 32 0).map byteV := by rw [fillB_zero]; rfl
 refine W.assign rfl rfl (W.nil (At.thenCode (C.seq (C.seq (C.region (W.assign rfl rfl (W.nil (At.thenCode (C.block ?_)))))))))
 refine C.loop (X := Nat) (fun x_ => [(0, .pointer (some ⟨g, 0, none⟩)), (2, .pointer (some ⟨g2, 0, none⟩)), (3, .pointer (some ⟨g3, 0, none⟩)), (4, .slice ao7 xs.length c7), (5, .int .i64 (x_ : Int))]) (fun x_ wl => x_ ≤ xs.length ∧ Chg (fun k => k = g3) w7 wl ∧ Bk wl g3 ((fillB (xs ++ List.replicate (32 - xs.length) 0) 32 x_).map byteV)) (fun x_ => xs.length - x_) (0) (sc rfl (sc rfl (sc rfl (sc rfl (sc rfl (Sub.nil)))))) ?start1 ?_
 case start1 =>
   show (0) ≤ xs.length ∧ Chg (fun k => k = g3) w7 _ ∧ Bk _ g3 ((fillB (xs ++ List.replicate (32 - xs.length) 0) 32 (0)).map byteV)
   exact ⟨by omega, Chg.refl _ _, hfz ▸ hB3b⟩
 rintro i wl hI_
 replace hI_ : i ≤ xs.length ∧ Chg (fun k => k = g3) w7 wl ∧ Bk wl g3 ((fillB (xs ++ List.replicate (32 - xs.length) 0) 32 i).map byteV) := hI_
 obtain ⟨hi, hCl, hBl⟩ := hI_
 refine C.weaken (l' := [(0, .pointer (some ⟨g, 0, none⟩)), (2, .pointer (some ⟨g2, 0, none⟩)), (3, .pointer (some ⟨g3, 0, none⟩)), (4, .slice ao7 xs.length c7), (5, .int .i64 (i : Int))]) (sc rfl (sc rfl (sc rfl (sc rfl (sc rfl (Sub.nil)))))) ?_
 refine C.seq (C.seq (C.region (W.move rfl rfl (W.move rfl rfl (W.lenS rfl Tryz.underlying22 rfl (W.lssI rfl rfl rfl (W.nil (At.thenCode ?_))))))))
 refine C.condD rfl (fun c11 => ?_) (fun c11 => ?_)
 have hlt : i < xs.length := by omega
 have hNl : Bs wl ao7 c7 xs := hN7.1.chg hCl (fun ad ea hn hk => by have := hN7.2 ad ea (by simpa using hn); have := hB3.lt; omega)
 refine C.skip (At.thenCode (C.seq (C.block (C.region (W.move rfl rfl (W.move rfl rfl (W.move rfl rfl ?_)))))))
 refine W.idx (v := byteV xs[i]) E8 Tryz.underlying22 Tryz.underlying5 rfl rfl hNl rfl (by omega) (by rw [Int.toNat_natCast]; exact get_byte hlt) rfl rfl ?_
 intro p17
 -- read with the address
 refine W.indexA1 Words.X8 Tryz.underlying43 rfl rfl (by first | omega | decide) rfl ?_
 refine W.store1 rfl rfl rfl hBl (by rw [List.length_map, fillB_length hk32 (by omega)]; omega) (by kernel_rfl) ?_
 intro w8 hc8 hB8
 have hB8' := key_fill hkl hlt []
 simp only [List.nil_append, List.length_nil, Nat.zero_add] at hB8'
 rw [hB8'] at hB8
 refine W.nil (At.blockNormal (At.thenCode (C.region (W.move rfl rfl ?_))))
 refine W.addI rfl rfl (by omega) rfl ?_
 refine W.assign rfl rfl (W.nil ?_)
 refine At.thenRound (i + 1) (sc rfl (sc rfl (sc rfl (sc rfl (sc (look_eq rfl (iV (by omega))) (Sub.nil)))))) (show (i + 1) ≤ xs.length ∧ Chg (fun k => k = g3) w7 _ ∧ Bk _ g3 ((fillB (xs ++ List.replicate (32 - xs.length) 0) 32 (i + 1)).map byteV) from ?_) (show xs.length - (i + 1) < xs.length - i from ?_)
 exact ⟨by omega, hCl.trans hc8, hB8⟩
 omega
 obtain rfl : i = xs.length := by omega
 rw [key_full hkl] at hBl
 have hB2c := hB2b.chg hCl (by omega)
 refine C.exit (At.thenExit (At.thenExit (At.blockSelf (At.thenCode (C.seq (C.region ?_))))))
 refine W.loadA rfl (hBl.cells (o := 0)) Tryz.underlying43 rfl (by rw [List.drop_zero, List.length_map, hk32]; kernel_rfl) rfl ?_
 rw [List.drop_zero]
 refine W.storeA ((xs ++ List.replicate (32 - xs.length) 0).map byteV) rfl rfl hB2c (by rw [List.length_map, hk32]; rfl) (by rw [List.length_map, hk32]; kernel_rfl) (bytes_oneCell _) ?_
 intro w9 hc9 hB9
 refine W.nil (At.thenCode (C.ret ?_))
 -- RESULT IN A CELL
 refine At.retC Tryz.results81 rfl (hB9.cells (o := 0)) Tryz.underlying43 rfl (by rw [List.drop_zero, List.length_map, hk32]; kernel_rfl) ?_
 rw [List.drop_zero]
 have hs3 := hX3a.size
 refine ⟨rfl, ⟨?_, ?_⟩⟩
 obtain ⟨p, e, r1, r2⟩ := hP7.rdr.out
 refine ⟨⟨p, e, (r1.chg hCl (by omega)).chg hc9 (by omega), r2⟩, ?_, hP7.rdr.far⟩
 exact (hP7.rdr.bs.chg hCl (fun ad ea hn hk => by have := h.bs.blk ea (by simpa using hn); have := hX2.size; omega)).chg hc9 (fun ad ea hn hk => by have := h.bs.blk ea (by simpa using hn); omega)
 have h1 : Chg (fun k => k = g) w w7 := (Chg.mono hX3a fun k hk => hk.elim).trans hP7.chg
 exact (h1.news hCl fun k hk => Or.inr (by have := hX2.size; omega)).news hc9 fun k hk => Or.inr (by omega)
theorem Ow.rep {w : World} {base e : Nat} {v : Value} {xs : List UInt8} (h : Ow w base e v xs) : Rep w v xs := by
 obtain ⟨a, c, rfl, hs, _⟩ := ownsRow_form h
 exact ⟨a, c, rfl, hs⟩
theorem Rep.stay {w w' : World} {v : Value} {xs : List UInt8} (h : Rep w v xs) (g : Ext w w') : Rep w' v xs := by
 obtain ⟨a, c, e, h⟩ := h
 exact ⟨a, c, e, h.ext g⟩
end Go.Proofs.YthiijdbiikljpaaGreat.Cod
