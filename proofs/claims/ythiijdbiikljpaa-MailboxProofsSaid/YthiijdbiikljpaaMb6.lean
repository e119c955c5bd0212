/- Package mailbox: taking a batch's letters. -/
import Derived.Test.YthiijdbiikljpaaMb5
namespace Go.Proofs.Ythiijdbiikljpaa.Mbx
open Go Go.RowKit Go.Proofs.Ythiijdbiikljpaa.KW Go.Proofs.Ythiijdbiikljpaa.Words Go.Proofs.Ythiijdbiikljpaa.Sha Go.Proofs.Ythiijdbiikljpaa.RSha Go.Proofs.Ythiijdbiikljpaa.Grp Go.Proofs.Ythiijdbiikljpaa.Cod Go.Proofs.Ythiijdbiikljpaa.Disk
set_option linter.unusedVariables false
set_option linter.unusedSimpArgs false
set_option maxRecDepth 100000
theorem batE_small {x : BatD} (h : batE x = 0) : x.inner.length ≤ 20 ∧ x.lets.length ≤ 1000 ∧ ∀ p ∈ x.lets, p.2.length ≤ 1048576 := by
  unfold batE at h
  split at h
  · cases h
  · rename_i hn
    refine ⟨?_, ?_, fun p hp => ?_⟩
    · rcases Nat.lt_or_ge 20 x.inner.length with h1 | h1
      · exact absurd (.inl h1) hn
      · exact h1
    · rcases Nat.lt_or_ge 1000 x.lets.length with h1 | h1
      · exact absurd (.inr (.inl h1)) hn
      · exact h1
    · rcases Nat.lt_or_ge 1048576 p.2.length with h1 | h1
      · exact absurd (.inr (.inr ⟨p, hp, h1⟩)) hn
      · exact h1
theorem heldX_len (x : BatD) (n : Nat) (name : List UInt8) : (heldX x n name).length ≤ x.lets.length := by
  unfold heldX
  rw [List.length_map]
  have h1 := List.length_filter_le (fun p : Let => decide (p.1 = name)) (x.lets.take n)
  rw [List.length_take] at h1
  omega
theorem heldL_len {l : List BatD} {m : Nat} (h : ∀ x ∈ l, x.lets.length ≤ m) (name : List UInt8) : (heldL l name).length ≤ l.length * m := by
  induction l with
  | nil => exact Nat.zero_le _
  | cons x t ih =>
    have e1 : heldL (x :: t) name = heldX x x.lets.length name ++ heldL t name := rfl
    rw [e1, List.length_append, List.length_cons, Nat.succ_mul]
    have h1 := ih fun y hy => h y (by simp [hy])
    have h2 := heldX_len x x.lets.length name
    have h3 := h x (by simp)
    omega
theorem Sets.mono {w w' : World} {F Z X : Nat → Prop} (h : Sets w F Z X) (hs : w.heap.size ≤ w'.heap.size) : Sets w' F Z X := ⟨h.zf, h.zx, h.fx, fun k hk => Nat.lt_of_lt_of_le (h.lt k hk) hs⟩
theorem take_ok (F : Nat → Prop) (g dg : Nat) (s : Bag) (o : Option Nat) (x : BatD) (vi vl : Value) (w : World) (hS : St w F g dg s o) (hb : BatM F w x vi vl) (hn : hasL s.l x.round x.chain = false) (hE0 : batE x = 0) (hsl : s.l.length ≤ 1000000000) :
    Ct Try.prog 33 #[.pointer (some ⟨g, 0, none⟩), .agg (batC x vi vl).toArray] w (fun v w' => ∃ F' : Nat → Prop, St w' F' g dg (takeS s x) o ∧ (∀ k, F k → F' k) ∧ (∀ k, F' k → F k ∨ w.heap.size ≤ k) ∧ Chg F w w') := by
  obtain ⟨mg, lg, X, es1, c1, es2, c2, h1, h2, h3, h4, h5⟩ := hS.out
  have hir : InI x.round := hb.ok.1
  have hic : InI x.chain := hb.ok.2.1
  obtain ⟨hsi, hsm, hsb⟩ := batE_small hE0
  obtain ⟨lk, hlk⟩ := keyP hir hic
  obtain ⟨al, cl, rfl, hEl⟩ := RSl.form hb.lets
  have hlt := hS.lt
  have hgF := hS.own
  have hmF : F mg := h4.zf _ (.inr (.inl rfl))
  have hlF : F lg := h4.zf _ (.inr (.inr rfl))
  have hZl : Zof g mg lg lg := .inr (.inr rfl)
  have hZm : Zof g mg lg mg := .inr (.inl rfl)
  have hZg : Zof g mg lg g := .inl rfl
  have hold : ∀ name, (heldL s.l name).length ≤ 1000000000000 := fun name => by
    have := heldL_len (l := s.l) (m := 1000) (fun y hy => (batE_small (hS.ok.1 y hy).2).2.1) name
    omega
  refine Ct.enter [(0, .pointer (some ⟨g, 0, none⟩)), (1, .agg (batC x vi (.slice al x.lets.length cl)).toArray)] Try.func33 rfl rfl rfl rfl ?_
  refine C.seq ?_
  refine C.region ?_
  refine W.box (batC x vi (.slice al x.lets.length cl)) rfl rfl rfl ?_
  intro g3 w3 hg3 hX3 hB3
  have h1a := h1.ext hX3
  have h1b : Bk w3 g [.pointer (some ⟨dg, 0, none⟩), .map (some mg), .map (some lg), .int .i64 (s.past : Int), .int .i64 (owedI o)] := h1a
  refine W.nil ?_
  refine At.thenCode ?_
  refine C.seq ?_
  refine C.regionAny 9 ((fun v w => v = .pointer (some ⟨g, 0, none⟩)) :: (fun v w => v = .pointer (some ⟨g, 0, none⟩)) :: (fun v w => v = .pointer (some ⟨g, 1, none⟩)) :: (fun v w => v = .map (some mg)) :: (fun v w => v = .pointer (some ⟨g3, 0, none⟩)) :: (fun v w => v = .int .i64 x.round) :: (fun v w => v = .pointer (some ⟨g3, 1, none⟩)) :: (fun v w => v = .int .i64 x.chain) :: (fun v w => v = placeV x.round x.chain) :: []) [(0, .pointer (some ⟨g, 0, none⟩)), (3, .pointer (some ⟨g3, 0, none⟩))] [] (Sub.cons (rfl) (Sub.cons (rfl) (Sub.nil))) (Sub.nil) (Sub.cons (rfl) (Sub.cons (rfl) (Sub.nil))) (by kernel_rfl) rfl rfl rfl (And.intro (fun _ _ _ h _ => h) (And.intro (fun _ _ _ h _ => h) (And.intro (fun _ _ _ h _ => h) (And.intro (fun _ _ _ h _ => h) (And.intro (fun _ _ _ h _ => h) (And.intro (fun _ _ _ h _ => h) (And.intro (fun _ _ _ h _ => h) (And.intro (fun _ _ _ h _ => h) (And.intro (fun _ _ _ h _ => h) (trivial)))))))))) ?_ ?_
  · refine And.intro ?_ ?_
    · intro L_ wr hX_ hs_ hf_ hd_
      refine W.step [(0, _)] (Sub.cons (hs_ _ _ rfl) (Sub.refl _)) ?_
      refine W.move rfl rfl ?_
      refine W.nil ?_
      exact At.step (Ext.refl _) rfl
    refine And.intro ?_ ?_
    · intro L_ wr hX_ hs_ hf_ hd_
      obtain ⟨v0, e0, r0⟩ := hd_ 0 rfl
      obtain rfl : (.pointer (some ⟨g, 0, none⟩) : Value) = v0 := Eq.symm r0
      refine W.step [(6, _)] (Sub.cons (e0 _ rfl) (Sub.refl _)) ?_
      refine W.nilCheck rfl rfl ?_
      refine W.nil ?_
      exact At.step (Ext.refl _) rfl
    refine And.intro ?_ ?_
    · intro L_ wr hX_ hs_ hf_ hd_
      obtain ⟨v1, e1, r1⟩ := hd_ 1 rfl
      obtain rfl : (.pointer (some ⟨g, 0, none⟩) : Value) = v1 := Eq.symm r1
      refine W.step [(7, _)] (Sub.cons (e1 _ rfl) (Sub.refl _)) ?_
      refine W.fieldB (off := 1) (size := 1) (t := 68) (Fld.of (by kernel_rfl)) rfl rfl rfl ?_
      refine W.nil ?_
      exact At.step (Ext.refl _) rfl
    refine And.intro ?_ ?_
    · intro L_ wr hX_ hs_ hf_ hd_
      obtain ⟨v2, e2, r2⟩ := hd_ 2 rfl
      obtain rfl : (.pointer (some ⟨g, 1, none⟩) : Value) = v2 := Eq.symm r2
      refine W.step [(8, _)] (Sub.cons (e2 _ rfl) (Sub.refl _)) ?_
      refine W.loadB (v := .map (some mg)) rfl Try.underlying68 rfl (h1b.ext hX_) rfl rfl ?_
      refine W.nil ?_
      exact At.step (Ext.refl _) rfl
    refine And.intro ?_ ?_
    · intro L_ wr hX_ hs_ hf_ hd_
      refine W.step [(3, _)] (Sub.cons (hs_ _ _ rfl) (Sub.refl _)) ?_
      refine W.fieldB (off := 0) (size := 1) (t := 3) (Fld.of (by kernel_rfl)) rfl rfl rfl ?_
      refine W.nil ?_
      exact At.step (Ext.refl _) rfl
    refine And.intro ?_ ?_
    · intro L_ wr hX_ hs_ hf_ hd_
      obtain ⟨v4, e4, r4⟩ := hd_ 4 rfl
      obtain rfl : (.pointer (some ⟨g3, 0, none⟩) : Value) = v4 := Eq.symm r4
      refine W.step [(10, _)] (Sub.cons (e4 _ rfl) (Sub.refl _)) ?_
      refine W.loadB (v := .int .i64 x.round) rfl Try.underlying3 rfl (hB3.ext hX_) rfl rfl ?_
      refine W.nil ?_
      exact At.step (Ext.refl _) rfl
    refine And.intro ?_ ?_
    · intro L_ wr hX_ hs_ hf_ hd_
      refine W.step [(3, _)] (Sub.cons (hs_ _ _ rfl) (Sub.refl _)) ?_
      refine W.fieldB (off := 1) (size := 1) (t := 3) (Fld.of (by kernel_rfl)) rfl rfl rfl ?_
      refine W.nil ?_
      exact At.step (Ext.refl _) rfl
    refine And.intro ?_ ?_
    · intro L_ wr hX_ hs_ hf_ hd_
      obtain ⟨v6, e6, r6⟩ := hd_ 6 rfl
      obtain rfl : (.pointer (some ⟨g3, 1, none⟩) : Value) = v6 := Eq.symm r6
      refine W.step [(12, _)] (Sub.cons (e6 _ rfl) (Sub.refl _)) ?_
      refine W.loadB (v := .int .i64 x.chain) rfl Try.underlying3 rfl (hB3.ext hX_) rfl rfl ?_
      refine W.nil ?_
      exact At.step (Ext.refl _) rfl
    refine And.intro ?_ ?_
    · intro L_ wr hX_ hs_ hf_ hd_
      obtain ⟨v5, e5, r5⟩ := hd_ 5 rfl
      obtain rfl : (.int .i64 x.round : Value) = v5 := Eq.symm r5
      obtain ⟨v7, e7, r7⟩ := hd_ 7 rfl
      obtain rfl : (.int .i64 x.chain : Value) = v7 := Eq.symm r7
      refine W.step [(11, _), (13, _)] (Sub.cons (e5 _ rfl) (Sub.cons (e7 _ rfl) (Sub.refl _))) ?_
      refine W.buildS (fs := _) [(0, 1), (1, 1)] [.int .i64 x.round, .int .i64 x.chain] [(.int .i64 0), (.int .i64 0)] Try.underlying83 (by kernel_rfl) (by kernel_rfl) rfl rfl rfl ?_
      refine W.nil ?_
      exact At.step (Ext.refl _) rfl
    exact trivial
  · intro L_ wr hX1 hs_ hv_
    obtain ⟨v3, e3, r3⟩ := hv_ 3 (by decide)
    obtain rfl : (.map (some mg) : Value) = v3 := Eq.symm r3
    obtain ⟨v8, e8, r8⟩ := hv_ 8 (by decide)
    obtain rfl : (placeV x.round x.chain : Value) = v8 := Eq.symm r8
    refine W.weaken (l' := [(9, _), (14, _), (0, _), (3, _)]) (Sub.cons (e3 _ rfl) (Sub.cons (e8 _ rfl) (Sub.cons (hs_ _ _ rfl) (Sub.cons (hs_ _ _ rfl) (Sub.nil))))) ?_
    have hX1 := hX3.ext hX1
    refine W.updateM lawP Try.underlying68 rfl rfl rfl (h2.mp.ext hX1) hlk ?_
    rintro es1' c1' w2 hC2 hM2 hd2
    have hno : ∀ e ∈ es1, e.key ≠ placeV x.round x.chain := fun e he hk => by
      have := (h2.has x.round x.chain).1 ⟨e, he, hk⟩
      rw [hn] at this; cases this
    obtain ⟨rfl, rfl⟩ : es1' = es1 ++ [⟨placeV x.round x.chain, .bool true, c1⟩] ∧ c1' = c1 + 1 := by
      rcases hd2 with ⟨_, h, h'⟩ | ⟨j, e, hj, hk, _⟩
      · exact ⟨h, h'⟩
      · exact absurd hk (hno e (List.mem_of_getElem? hj))
    have hA2 : AM w2 mg (s.l ++ [x]) (es1 ++ [⟨placeV x.round x.chain, .bool true, c1⟩]) (c1 + 1) := ⟨hM2, by rw [List.map_append, List.map_append, h2.are]; rfl⟩
    have hC2' : Chg F w w2 := (hX1.mono fun _ c => c.elim).trans (hC2.mono fun k hk => by subst hk; exact hmF)
    have hs2 := hC2'.size
    have h1c : Bk w2 g (stC dg mg lg s.past o) := (h1.ext hX1).chg hC2 h5.1
    have hg3' : g3 = w.heap.size := hg3
    have hB3c : Bk w2 g3 (batC x vi (.slice al x.lets.length cl)) := (hB3.ext ‹Ext w3 wr›).chg hC2 (fun e => by have := hlt mg hmF; omega)
    have hL2 : LM w2 F (Zof g mg lg) X lg (heldL s.l) es2 c2 := (h3.keep h4 hX1 (fun _ c => c.elim) (fun c => c)).keep (h4.mono hX1.size) hC2 (fun k hk => .inl (by subst hk; exact hZm)) h5.2.2.symm
    have hS2 := h4.mono hs2
    have hEl2 : Els (fun k => F k ∨ w.heap.size ≤ k) w2 33 RLet al cl x.lets := (hEl.new rLet (B := fun k => F k ∨ w.heap.size ≤ k) fun k hk hlt => hk.elim id fun h => by omega).chg rLet (hC2'.mono fun k hk => .inl hk)
    have hg3lt := hB3c.lt
    refine W.nil ?_
    refine At.thenCode ?_
    refine C.seq ?_
    refine C.region ?_
    refine W.fieldB (off := 3) (size := 1) (t := 31) (Fld.of (by kernel_rfl)) rfl rfl rfl ?_
    refine W.loadB (v := .slice al x.lets.length cl) rfl Try.underlying31 rfl hB3c rfl rfl ?_
    refine W.lenS rfl Try.underlying31 rfl ?_
    refine W.move rfl rfl ?_
    refine W.nil ?_
    refine At.thenCode ?_
    refine C.block ?_
    refine C.loop (X := Nat) (fun x_ => [(0, .pointer (some ⟨g, 0, none⟩)), (3, .pointer (some ⟨g3, 0, none⟩)), (16, .slice al x.lets.length cl), (17, .int .i64 (x.lets.length : Int)), (18, .int .i64 (x_ : Int))]) (fun x_ w1 => x_ ≤ x.lets.length ∧ ∃ (F1 X1 : Nat → Prop) (e2 : List MapEntry) (k2 : Nat), (∀ k, F k → F1 k) ∧ (∀ k, F1 k → F k ∨ w2.heap.size ≤ k) ∧ Chg F w2 w1 ∧ Bk w1 g (stC dg mg lg s.past o) ∧ AM w1 mg (s.l ++ [x]) (es1 ++ [⟨placeV x.round x.chain, .bool true, c1⟩]) (c1 + 1) ∧ LM w1 F1 (Zof g mg lg) X1 lg (fun name => heldL s.l name ++ heldX x x_ name) e2 k2 ∧ Sets w1 F1 (Zof g mg lg) X1) (fun x_ => x.lets.length - x_) (0) (Sub.cons (rfl) (Sub.cons (rfl) (Sub.cons (rfl) (Sub.cons (rfl) (Sub.cons (rfl) (Sub.nil)))))) ?start1 ?_
    case start1 =>
      show (0) ≤ x.lets.length ∧ ∃ (F1 X1 : Nat → Prop) (e2 : List MapEntry) (k2 : Nat), (∀ k, F k → F1 k) ∧ (∀ k, F1 k → F k ∨ w2.heap.size ≤ k) ∧ Chg F w2 _ ∧ Bk _ g (stC dg mg lg s.past o) ∧ AM _ mg (s.l ++ [x]) (es1 ++ [⟨placeV x.round x.chain, .bool true, c1⟩]) (c1 + 1) ∧ LM _ F1 (Zof g mg lg) X1 lg (fun name => heldL s.l name ++ heldX x (0) name) e2 k2 ∧ Sets _ F1 (Zof g mg lg) X1

      refine ⟨by omega, F, X, es2, c2, fun k hk => hk, fun k hk => .inl hk, Chg.refl _ _, h1c, hA2, ?_, hS2⟩
      have : (fun name => heldL s.l name ++ heldX x 0 name) = heldL s.l := by funext name; rw [heldX_zero, List.append_nil]
      rw [this]; exact hL2
    rintro i w1 hI_
    replace hI_ : i ≤ x.lets.length ∧ ∃ (F1 X1 : Nat → Prop) (e2 : List MapEntry) (k2 : Nat), (∀ k, F k → F1 k) ∧ (∀ k, F1 k → F k ∨ w2.heap.size ≤ k) ∧ Chg F w2 w1 ∧ Bk w1 g (stC dg mg lg s.past o) ∧ AM w1 mg (s.l ++ [x]) (es1 ++ [⟨placeV x.round x.chain, .bool true, c1⟩]) (c1 + 1) ∧ LM w1 F1 (Zof g mg lg) X1 lg (fun name => heldL s.l name ++ heldX x i name) e2 k2 ∧ Sets w1 F1 (Zof g mg lg) X1 := hI_
    obtain ⟨hi, F1, X1, e2, k2, hF1, hF1', hC1, hg1, hA1, hL1, hSt1⟩ := hI_
    refine C.weaken (l' := [(0, .pointer (some ⟨g, 0, none⟩)), (3, .pointer (some ⟨g3, 0, none⟩)), (16, .slice al x.lets.length cl), (17, .int .i64 (x.lets.length : Int)), (18, .int .i64 (i : Int))]) (Sub.cons (rfl) (Sub.cons (rfl) (Sub.cons (rfl) (Sub.cons (rfl) (Sub.cons (rfl) (Sub.nil)))))) ?_
    refine C.seq ?_
    refine C.region ?_
    refine W.lssI rfl rfl rfl ?_
    refine W.nil ?_
    refine At.thenCode ?_
    refine C.seq ?_
    first | refine C.condD rfl (fun c19 => ?_) (fun c19 => ?_) | refine C.cond rfl (fun c19 => ?_) (fun c19 => ?_)
    · have hlti : i < x.lets.length := by omega
      have hEl1 : Els (fun k => F k ∨ w.heap.size ≤ k) w1 33 RLet al cl x.lets := hEl2.chg rLet (hC1.mono fun k hk => .inl hk)
      refine C.skip ?_
      refine At.thenCode ?_
      refine C.seq ?_
      refine C.block ?_
      refine C.seq ?_
      refine C.region ?_
      refine W.indexE ELet Try.underlying31 rfl hEl1 rfl hlti rfl ?_
      rintro ad20 cs20 hc20 ⟨vb, rfl, hvb, hKl⟩ hl20
      obtain ⟨K, hK⟩ : ∃ K, K = (x.lets[i]'hlti).1 := ⟨_, rfl⟩
      obtain ⟨B, hB⟩ : ∃ B, B = (x.lets[i]'hlti).2 := ⟨_, rfl⟩
      rw [← hK] at hKl hc20 hl20
      rw [← hB] at hvb
      have hBl : B.length ≤ 1048576 := by rw [hB]; exact hsb _ (List.getElem_mem hlti)
      obtain ⟨ab, cb, rfl, hbs, hbn⟩ := RByt.form hvb
      refine W.loadA rfl hc20 Try.underlying53 rfl (by rw [hl20]; kernel_rfl) rfl ?_
      refine W.alloc (z := .agg (List.replicate 32 (byteV 0) ++ [Value.slice none 0 0]).toArray) (List.replicate 32 (byteV 0) ++ [Value.slice none 0 0]) (by kernel_rfl) rfl rfl ?_
      intro g5 w5 hg5 hX5 hB5
      refine W.storeA (K.map byteV ++ [.slice ab B.length cb]) rfl rfl hB5 (by rw [hl20]; rfl) (by rw [hl20]; kernel_rfl) (fun u hu => by
        rcases List.mem_append.1 hu with hu | hu
        · exact bytes_oneCell _ u hu
        · obtain rfl := List.mem_singleton.1 hu; rfl) ?_
      intro w4 hC4 hB4
      have hX4 : Ext w1 w4 := hX5.news hC4 fun k hk => Or.inr (by omega)
      have hs4 := hX4.size
      have hg4 := hg1.ext hX4
      have hg4' : Bk w4 g [.pointer (some ⟨dg, 0, none⟩), .map (some mg), .map (some lg), .int .i64 (s.past : Int), .int .i64 (owedI o)] := hg4
      have hA4 := hA1.chg hX4 (fun c => c)
      have hL4 := hL1.keep hSt1 hX4 (fun _ c => c.elim) (fun c => c)
      have hSt4 := hSt1.mono hs4
      have hB3d : Bk w4 g3 (batC x vi (.slice al x.lets.length cl)) := (hB3c.chg hC1 (fun hF => by have := hlt _ hF; omega)).ext hX4
      have hbs4 : Bs w4 ab cb B := hbs.ext hX4
      have hF1lt := hSt4.lt
      have hg3n : ¬ F1 g3 := fun hF => by
        rcases hF1' _ hF with h | h
        · have := hlt _ h; omega
        · omega
      have hg5n : ¬ F1 g5 := fun hF => by have := hSt1.lt _ hF; omega
      obtain ⟨lkK, hlkK⟩ := keyK hKl
      obtain ⟨En, Ck, J, en, hp⟩ := Pre.exist e2 k2 (keyV K) (.slice none 0 0)
      obtain ⟨hrow, hrown⟩ := LM.at hL4 hKl hp
      have hfam : ∀ q b, ((q = 13 ∧ b = lg) ∨ (q = 15 ∧ en.val.ownBlock = some b)) → F1 b ∧ b ≠ g := fun q b hq => by
        rcases hq with ⟨_, rfl⟩ | ⟨_, hq⟩
        · exact ⟨hF1 _ hlF, h5.2.1.symm⟩
        · exact ⟨(hrown _ hq).1, fun e => (hrown _ hq).2.2 (by rw [e]; exact hZg)⟩
      have hA0 : ∀ q b, ((q = 13 ∧ b = lg) ∨ (q = 15 ∧ en.val.ownBlock = some b)) → b < w4.heap.size := fun q b hq => hF1lt _ (hfam q b hq).1
      have hfk : ((heldL s.l K ++ heldX x i K).length + 1) * 32 ≤ 140737488355328 := by
        have a1 := hold K
        have a2 := heldX_len x i K
        rw [List.length_append]; omega
      refine W.nil ?_
      refine At.thenCode ?_
      refine C.regionAnyB (fun q b => (q = 13 ∧ b = lg) ∨ (q = 15 ∧ en.val.ownBlock = some b)) 17 ((fun v w => v = .pointer (some ⟨g, 0, none⟩)) :: (fun v w => v = .pointer (some ⟨g, 0, none⟩)) :: (fun v w => v = .pointer (some ⟨g, 2, none⟩)) :: (fun v w => v = .map (some lg)) :: (fun v w => v = .pointer (some ⟨g5, 0, none⟩)) :: (fun v w => v = keyV K) :: (fun v w => v = .pointer (some ⟨g3, 0, none⟩)) :: (fun v w => v = .int .i64 x.round) :: (fun v w => v = .pointer (some ⟨g5, 32, none⟩)) :: (fun v w => v = .slice ab B.length cb) :: (fun v w => RByt (fun k => k < w4.heap.size) w [v] B) :: (fun v w => ∃ cs, v = .agg cs.toArray ∧ RHeld (fun k => k < w4.heap.size) w cs (x.round, B) ∧ cs.length = 2) :: (fun v w => ∃ a c, v = .slice a 1 c ∧ Els (fun k => k < w4.heap.size) w 2 RHeld a c [(x.round, B)]) :: (fun v w => v = .tuple #[en.val, .int .i64 (en.born : Int)] ∧ Mp Try.prog 50 w lg En Ck) :: (fun v w => v = en.val) :: (fun v w => OwE (fun q => X1 q ∧ q < w4.heap.size) w 0 87 2 RHeld v (heldL s.l K ++ heldX x i K ++ [(x.round, B)]) ∧ (v.ownBlock = en.val.ownBlock ∨ ∀ q, v.ownBlock = some q → w4.heap.size ≤ q)) :: (fun v w => v = .int .i64 (en.born : Int)) :: []) [(0, .pointer (some ⟨g, 0, none⟩)), (3, .pointer (some ⟨g3, 0, none⟩)), (5, .pointer (some ⟨g5, 0, none⟩)), (16, .slice al x.lets.length cl), (17, .int .i64 (x.lets.length : Int)), (18, .int .i64 (i : Int))] [] (Sub.cons (rfl) (Sub.cons (rfl) (Sub.cons (rfl) (Sub.cons (rfl) (Sub.cons (rfl) (Sub.cons (rfl) (Sub.nil))))))) (Sub.nil) (Sub.cons (rfl) (Sub.cons (rfl) (Sub.cons (rfl) (Sub.cons (rfl) (Sub.cons (rfl) (Sub.cons (rfl) (Sub.nil))))))) (by kernel_rfl) rfl rfl rfl (And.intro (fun _ _ _ h _ => h) (And.intro (fun _ _ _ h _ => h) (And.intro (fun _ _ _ h _ => h) (And.intro (fun _ _ _ h _ => h) (And.intro (fun _ _ _ h _ => h) (And.intro (fun _ _ _ h _ => h) (And.intro (fun _ _ _ h _ => h) (And.intro (fun _ _ _ h _ => h) (And.intro (fun _ _ _ h _ => h) (And.intro (fun _ _ _ h _ => h) (And.intro (fun _ _ _ h g => rByt.chg h (g.mono fun b ⟨_, _, _, q⟩ => hA0 _ _ q)) (And.intro (fun _ _ _ ⟨cs, e, h, q⟩ g => ⟨cs, e, rHeld.chg h (g.mono fun b ⟨_, _, _, q⟩ => hA0 _ _ q), q⟩) (And.intro (fun _ _ _ ⟨a, c, e, h⟩ g => ⟨a, c, e, Els.chg rHeld h (g.mono fun b ⟨_, _, _, q⟩ => hA0 _ _ q)⟩) (And.intro (fun _ _ _ h g => ⟨h.1, h.2.chg g (by
      rintro ⟨q, q1, q2, q3⟩
      rcases q3 with ⟨rfl, _⟩ | ⟨_, q4⟩
      · exact q1 rfl
      · exact (hrown _ q4).2.2 hZl)⟩) (And.intro (fun _ _ _ h _ => h) (And.intro (fun _ _ _ h g => ⟨OwE.ext rHeld h.1 (FamPost.ext g (by
      rintro q b q1 q2 (⟨rfl, _⟩ | ⟨rfl, _⟩)
      · exact dT_absurd q2 (by kernel_rfl)
      · exact q1 rfl)), h.2⟩) (And.intro (fun _ _ _ h _ => h) (trivial)))))))))))))))))) ?_ ?_
      · refine And.intro ?_ ?_
        · intro L_ wr hX_ hs_ hf_ hd_
          refine W.step [(0, _)] (Sub.cons (hs_ _ _ rfl) (Sub.refl _)) ?_
          refine W.move rfl rfl ?_
          refine W.nil ?_
          exact At.stepF (Fam.ofExt (Ext.refl _)) rfl
        refine And.intro ?_ ?_
        · intro L_ wr hX_ hs_ hf_ hd_
          obtain ⟨v0, e0, r0⟩ := hd_ 0 rfl
          obtain rfl : (.pointer (some ⟨g, 0, none⟩) : Value) = v0 := Eq.symm r0
          refine W.step [(22, _)] (Sub.cons (e0 _ rfl) (Sub.refl _)) ?_
          refine W.nilCheck rfl rfl ?_
          refine W.nil ?_
          exact At.stepF (Fam.ofExt (Ext.refl _)) rfl
        refine And.intro ?_ ?_
        · intro L_ wr hX_ hs_ hf_ hd_
          obtain ⟨v1, e1, r1⟩ := hd_ 1 rfl
          obtain rfl : (.pointer (some ⟨g, 0, none⟩) : Value) = v1 := Eq.symm r1
          refine W.step [(23, _)] (Sub.cons (e1 _ rfl) (Sub.refl _)) ?_
          refine W.fieldB (off := 2) (size := 1) (t := 69) (Fld.of (by kernel_rfl)) rfl rfl rfl ?_
          refine W.nil ?_
          exact At.stepF (Fam.ofExt (Ext.refl _)) rfl
        refine And.intro ?_ ?_
        · intro L_ wr hX_ hs_ hf_ hd_
          obtain ⟨v2, e2, r2⟩ := hd_ 2 rfl
          obtain rfl : (.pointer (some ⟨g, 2, none⟩) : Value) = v2 := Eq.symm r2
          refine W.step [(24, _)] (Sub.cons (e2 _ rfl) (Sub.refl _)) ?_
          refine W.loadB (v := .map (some lg)) rfl Try.underlying69 rfl (hg4'.chg hX_ (by rintro ⟨_, _, _, q⟩; exact (hfam _ _ q).2 rfl)) rfl rfl ?_
          refine W.nil ?_
          exact At.stepF (Fam.ofExt (Ext.refl _)) rfl
        refine And.intro ?_ ?_
        · intro L_ wr hX_ hs_ hf_ hd_
          refine W.step [(5, _)] (Sub.cons (hs_ _ _ rfl) (Sub.refl _)) ?_
          refine W.fieldB (off := 0) (size := 32) (t := 50) (Fld.of (by kernel_rfl)) rfl rfl rfl ?_
          refine W.nil ?_
          exact At.stepF (Fam.ofExt (Ext.refl _)) rfl
        refine And.intro ?_ ?_
        · intro L_ wr hX_ hs_ hf_ hd_
          obtain ⟨v4, e4, r4⟩ := hd_ 4 rfl
          obtain rfl : (.pointer (some ⟨g5, 0, none⟩) : Value) = v4 := Eq.symm r4
          refine W.step [(26, _)] (Sub.cons (e4 _ rfl) (Sub.refl _)) ?_
          refine W.loadA (cs := K.map byteV) rfl (by
            have := Bk.cellsN (o := 0) (n := 32) (hB4.chg hX_ (by rintro ⟨_, _, _, q⟩; exact hg5n (hfam _ _ q).1))
            rwa [List.drop_zero, List.take_append_of_le_length (by rw [List.length_map, hKl]; exact Nat.le_refl _), List.take_of_length_le (by rw [List.length_map, hKl]; exact Nat.le_refl _)] at this) Try.underlying50 rfl (by rw [List.length_map, hKl]; kernel_rfl) rfl ?_
          refine W.nil ?_
          exact At.stepF (Fam.ofExt (Ext.refl _)) rfl
        refine And.intro ?_ ?_
        · intro L_ wr hX_ hs_ hf_ hd_
          refine W.step [(3, _)] (Sub.cons (hs_ _ _ rfl) (Sub.refl _)) ?_
          refine W.fieldB (off := 0) (size := 1) (t := 3) (Fld.of (by kernel_rfl)) rfl rfl rfl ?_
          refine W.nil ?_
          exact At.stepF (Fam.ofExt (Ext.refl _)) rfl
        refine And.intro ?_ ?_
        · intro L_ wr hX_ hs_ hf_ hd_
          obtain ⟨v6, e6, r6⟩ := hd_ 6 rfl
          obtain rfl : (.pointer (some ⟨g3, 0, none⟩) : Value) = v6 := Eq.symm r6
          refine W.step [(29, _)] (Sub.cons (e6 _ rfl) (Sub.refl _)) ?_
          refine W.loadB (v := .int .i64 x.round) rfl Try.underlying3 rfl (hB3d.chg hX_ (by rintro ⟨_, _, _, q⟩; exact hg3n (hfam _ _ q).1)) rfl rfl ?_
          refine W.nil ?_
          exact At.stepF (Fam.ofExt (Ext.refl _)) rfl
        refine And.intro ?_ ?_
        · intro L_ wr hX_ hs_ hf_ hd_
          refine W.step [(5, _)] (Sub.cons (hs_ _ _ rfl) (Sub.refl _)) ?_
          refine W.fieldB (off := 32) (size := 1) (t := 51) (Fld.of (by kernel_rfl)) rfl rfl rfl ?_
          refine W.nil ?_
          exact At.stepF (Fam.ofExt (Ext.refl _)) rfl
        refine And.intro ?_ ?_
        · intro L_ wr hX_ hs_ hf_ hd_
          obtain ⟨v8, e8, r8⟩ := hd_ 8 rfl
          obtain rfl : (.pointer (some ⟨g5, 32, none⟩) : Value) = v8 := Eq.symm r8
          refine W.step [(31, _)] (Sub.cons (e8 _ rfl) (Sub.refl _)) ?_
          refine W.loadB (v := .slice ab B.length cb) rfl Try.underlying51 rfl (hB4.chg hX_ (by rintro ⟨_, _, _, q⟩; exact hg5n (hfam _ _ q).1)) (by rw [List.getElem?_append_right (by rw [List.length_map, hKl]; exact Nat.le_refl _), List.length_map, hKl]; rfl) rfl ?_
          refine W.nil ?_
          exact At.stepF (Fam.ofExt (Ext.refl _)) rfl
        refine And.intro ?_ ?_
        · intro L_ wr hX_ hs_ hf_ hd_
          obtain ⟨v9, e9, r9⟩ := hd_ 9 rfl
          obtain rfl : (.slice ab B.length cb : Value) = v9 := Eq.symm r9
          refine W.step [(32, _)] (Sub.cons (e9 _ rfl) (Sub.refl _)) ?_
          have hbsr : Bs wr ab cb B := Sl.chg hbs4 hX_ (by
            rintro ad e hne ⟨_, _, _, q⟩
            refine hbn ad e (fun e => hne (by rw [e]; rfl)) ?_
            rcases hF1' _ (hfam _ _ q).1 with h | h
            · exact .inl h
            · exact .inr (by omega))
          refine W.call Try.call37 rfl (Disk.cloneB_ok ab cb B _ hbsr (by omega)) rfl ?_
          rintro v33 w33 ⟨ho33, hX33⟩
          obtain ⟨a33, c33, rfl, hS33, hq33⟩ := ownsRow_form ho33
          refine W.nil ?_
          exact At.stepF (Fam.ofExt hX33) ⟨a33, c33, rfl, hS33, fun ad e _ hA => by have := hq33 ad e; have := Chg.size hX_; omega⟩
        refine And.intro ?_ ?_
        · intro L_ wr hX_ hs_ hf_ hd_
          obtain ⟨v7, e7, r7⟩ := hd_ 7 rfl
          obtain rfl : (.int .i64 x.round : Value) = v7 := Eq.symm r7
          obtain ⟨v10, e10, r10⟩ := hd_ 10 rfl
          obtain ⟨a10, c10, rfl, hb10, hn10⟩ := RByt.form (show RByt (fun k => k < w4.heap.size) _ [_] B from r10)
          refine W.step [(30, _), (33, _)] (Sub.cons (e7 _ rfl) (Sub.cons (e10 _ rfl) (Sub.refl _))) ?_
          refine W.buildS (fs := _) [(0, 1), (1, 1)] [.int .i64 x.round, .slice a10 B.length c10] [(.int .i64 0), (.slice none 0 0)] Try.underlying87 (by kernel_rfl) (by kernel_rfl) rfl rfl rfl ?_
          refine W.nil ?_
          exact At.stepF (Fam.ofExt (Ext.refl _)) ⟨_, rfl, ⟨_, rfl, r10, hir⟩, rfl⟩
        refine And.intro ?_ ?_
        · intro L_ wr hX_ hs_ hf_ hd_
          obtain ⟨v11, e11, r11⟩ := hd_ 11 rfl
          obtain ⟨cs11, rfl, hR11, hl11⟩ := r11
          refine W.step [(34, _)] (Sub.cons (e11 _ rfl) (Sub.refl _)) ?_
          refine W.litS cs11 EHeld Try.underlying85 rfl hl11 (by decide) rfl ?_
          intro g35 w35 hg35 hX35 ho35 hs35
          refine W.nil ?_
          exact At.stepF (Fam.ofExt hX35) ⟨_, _, rfl, Els.lit hs35 (rHeld.ext hR11 hX35) (by have := Chg.size hX_; omega)⟩
        refine And.intro ?_ ?_
        · intro L_ wr hX_ hs_ hf_ hd_
          obtain ⟨v3, e3, r3⟩ := hd_ 3 rfl
          obtain rfl : (.map (some lg) : Value) = v3 := Eq.symm r3
          obtain ⟨v5, e5, r5⟩ := hd_ 5 rfl
          obtain rfl : (keyV K : Value) = v5 := Eq.symm r5
          refine W.step [(25, _), (27, _)] (Sub.cons (e3 _ rfl) (Sub.cons (e5 _ rfl) (Sub.refl _))) ?_
          refine W.mapEntry lawK Try.underlying69 (z := .slice none 0 0) (by kernel_rfl) rfl rfl (hL4.mp.chg hX_ (by
            rintro ⟨q, q1, q2, q3⟩
            rcases q3 with ⟨rfl, _⟩ | ⟨_, q4⟩
            · exact q1 rfl
            · exact (hrown _ q4).2.2 hZl)) hlkK rfl ?_
          rintro E1 C1 w36 J1 e1 hC36 hM36 hj36 hk36 hd36
          obtain ⟨rfl, rfl, rfl, rfl⟩ := Pre.one hL4.mp ⟨hk36, hj36, hd36⟩ hp
          refine W.nil ?_
          exact At.stepF (Fam.of 13 (hC36.mono fun b hb => .inl ⟨rfl, hb⟩)) ⟨rfl, hM36⟩
        refine And.intro ?_ ?_
        · intro L_ wr hX_ hs_ hf_ hd_
          obtain ⟨v13, e13, r13⟩ := hd_ 13 rfl
          obtain ⟨rfl, hM13⟩ := r13
          refine W.step [(36, _)] (Sub.cons (e13 _ rfl) (Sub.refl _)) ?_
          refine W.extract rfl rfl rfl ?_
          refine W.nil ?_
          exact At.stepF (Fam.ofExt (Ext.refl _)) rfl
        refine And.intro ?_ ?_
        · intro L_ wr hX_ hs_ hf_ hd_
          obtain ⟨v14, e14, r14⟩ := hd_ 14 rfl
          obtain rfl : (en.val : Value) = v14 := Eq.symm r14
          obtain ⟨v12, e12, r12⟩ := hd_ 12 rfl
          obtain ⟨a12, c12, rfl, hE12⟩ := r12
          refine W.step [(28, _), (35, _)] (Sub.cons (e14 _ rfl) (Sub.cons (e12 _ rfl) (Sub.refl _))) ?_
          have hrow_ : OwE X1 wr 0 87 2 RHeld en.val (heldL s.l K ++ heldX x i K) := OwE.chgS rHeld hrow hX_ (by
            rintro k ⟨q, q1, q2, q3⟩
            rcases q3 with ⟨_, rfl⟩ | ⟨_, q4⟩
            · exact hSt4.zx _ hZl
            · exact (hrown _ q4).2.1) (by
            rintro k hk ⟨q, q1, q2, q3⟩
            rcases q3 with ⟨_, rfl⟩ | ⟨rfl, q4⟩
            · exact (hrown _ hk).2.2 hZl
            · exact q1 rfl)
          refine W.appendE (A := fun q => X1 q ∧ q < w4.heap.size) (ys := [(x.round, B)]) rHeld EHeld Try.underlying85 rfl rfl (OwE.new rHeld hrow_ fun k hk _ => .inl hk.1) (Els.new rHeld hE12 fun k hk _ => by
            rcases hk with hk | hk
            · exact hk.2
            · exact hF1lt _ (hrown _ hk).1) (by simpa using hfk) (by have := hfk; simp only [List.length_append, List.length_singleton] at this ⊢; omega) (Nat.zero_le _) rfl ?_
          intro v37 w37 ho37 hg37 hv37
          refine W.nil ?_
          exact At.stepF (Fam.of 15 ((Chg.of_grown hg37).mono fun b hb => .inr ⟨rfl, hb.symm⟩)) ⟨ho37, hv37.imp id (fun ⟨k, hk, hk'⟩ q hq => by rw [hk] at hq; obtain rfl := Option.some.inj hq; have := Chg.size hX_; omega)⟩
        refine And.intro ?_ ?_
        · intro L_ wr hX_ hs_ hf_ hd_
          obtain ⟨v13, e13, r13⟩ := hd_ 13 rfl
          obtain ⟨rfl, hM13⟩ := r13
          refine W.step [(36, _)] (Sub.cons (e13 _ rfl) (Sub.refl _)) ?_
          refine W.extract rfl rfl rfl ?_
          refine W.nil ?_
          exact At.stepF (Fam.ofExt (Ext.refl _)) rfl
        exact trivial
      · intro L_ wr hX5 hs_ hv_
        obtain ⟨v13, e13, r13⟩ := hv_ 13 (by decide)
        obtain ⟨rfl, hM13⟩ := r13
        obtain ⟨v3, e3, r3⟩ := hv_ 3 (by decide)
        obtain rfl : (.map (some lg) : Value) = v3 := Eq.symm r3
        obtain ⟨v16, e16, r16⟩ := hv_ 16 (by decide)
        obtain rfl : (.int .i64 (en.born : Int) : Value) = v16 := Eq.symm r16
        obtain ⟨v15, e15, r15⟩ := hv_ 15 (by decide)
        refine W.weaken (l' := [(36, _), (25, _), (38, _), (37, _), (0, _), (3, _), (5, _), (16, _), (17, _), (18, _)]) (Sub.cons (e13 _ rfl) (Sub.cons (e3 _ rfl) (Sub.cons (e16 _ rfl) (Sub.cons (e15 _ rfl) (Sub.cons (hs_ _ _ rfl) (Sub.cons (hs_ _ _ rfl) (Sub.cons (hs_ _ _ rfl) (Sub.cons (hs_ _ _ rfl) (Sub.cons (hs_ _ _ rfl) (Sub.cons (hs_ _ _ rfl) (Sub.nil))))))))))) ?_
        refine W.entryStore rfl rfl rfl hM13 hp.get ?_
        intro wz hCz hMz
        rw [hp.key] at hMz
        have hsr := Chg.size hX5
        obtain ⟨ho15, hv15⟩ := r15
        have hCall : Chg (fun q => q = lg ∨ en.val.ownBlock = some q) w4 wz := (Chg.mono hX5 (by
          rintro k ⟨q, q1⟩
          rcases q1 with ⟨_, rfl⟩ | ⟨_, q4⟩
          · exact .inl rfl
          · exact .inr q4)).trans (hCz.mono fun k hk => .inl hk)
        have hoz : OwE (fun q => X1 q ∧ q < w4.heap.size) wz 0 87 2 RHeld v15 (heldL s.l K ++ heldX x (i + 1) K) := by
          have := OwE.chgS rHeld ho15 hCz (fun k hk => by subst hk; exact ⟨hSt4.zx _ hZl, hF1lt _ (hF1 _ hlF)⟩) (fun k hk hkl => by
            subst hkl
            rcases hv15 with h | h
            · rw [h] at hk; exact (hrown _ hk).2.2 hZl
            · have := h _ hk; have := hF1lt _ (hF1 _ hlF); omega)
          rwa [heldX_step hlti, if_pos hK.symm, ← List.append_assoc, ← hB]
        obtain ⟨X', hLz, hSz⟩ := LM.put (f' := fun name => heldL s.l name ++ heldX x (i + 1) name) hL4 hSt4 hZl hKl hp hMz hCall hoz hv15 (fun name hne => by
          show heldL s.l name ++ heldX x (i + 1) name = _
          rw [heldX_step hlti, if_neg (fun e => hne (by rw [hK, e])), List.append_nil])
        have hgz : Bk wz g (stC dg mg lg s.past o) := hg4.chg hCall (by
          rintro (h | h)
          · exact h5.2.1 h
          · exact (hrown _ h).2.2 hZg)
        have hAz : AM wz mg (s.l ++ [x]) (es1 ++ [⟨placeV x.round x.chain, .bool true, c1⟩]) (c1 + 1) := hA4.chg hCall (by
          rintro (h | h)
          · exact h5.2.2 h
          · exact (hrown _ h).2.2 hZm)
        have hs12 := hC1.size
        refine W.nil ?_
        refine At.blockNormal ?_
        refine At.thenCode ?_
        refine C.region ?_
        first | refine W.addI rfl rfl (by omega) rfl ?_ | refine W.addW rfl rfl rfl ?_
        refine W.move rfl rfl ?_
        refine W.nil ?_
        refine At.thenRound (i + 1) (Sub.cons (rfl) (Sub.cons (rfl) (Sub.cons (rfl) (Sub.cons (rfl) (Sub.cons (look_eq rfl (iV (by omega))) (Sub.nil)))))) (show (i + 1) ≤ x.lets.length ∧ ∃ (F1 X1 : Nat → Prop) (e2 : List MapEntry) (k2 : Nat), (∀ k, F k → F1 k) ∧ (∀ k, F1 k → F k ∨ w2.heap.size ≤ k) ∧ Chg F w2 _ ∧ Bk _ g (stC dg mg lg s.past o) ∧ AM _ mg (s.l ++ [x]) (es1 ++ [⟨placeV x.round x.chain, .bool true, c1⟩]) (c1 + 1) ∧ LM _ F1 (Zof g mg lg) X1 lg (fun name => heldL s.l name ++ heldX x (i + 1) name) e2 k2 ∧ Sets _ F1 (Zof g mg lg) X1 from ?_) (show x.lets.length - (i + 1) < x.lets.length - i from ?_)
        · refine ⟨by omega, Grown F1 w4 wz, X', _, _, fun k hk => .inl (hF1 k hk), fun k hk => ?_, ?_, hgz, hAz, hLz, hSz⟩
          · rcases hk with hk | hk
            · exact hF1' k hk
            · exact .inr (by omega)
          · refine hC1.news ((hX4.mono fun _ c => c.elim).trans hCall) fun k hk => ?_
            have : F1 k := by
              rcases hk with rfl | hk
              · exact hF1 _ hlF
              · exact (hrown _ hk).1
            exact hF1' k this
        · omega
    · obtain rfl : i = x.lets.length := by omega
      refine C.exit ?_
      refine At.thenExit ?_
      refine At.thenExit ?_
      refine At.blockSelf ?_
      refine At.end0 Try.results33 ?_
      refine ⟨F1, ⟨⟨mg, lg, X1, _, _, e2, k2, hg1, hA1, ?_, hSt1, h5⟩, hF1 _ hgF, hSt1.lt, ?_⟩, hF1, fun k hk => (hF1' k hk).imp id fun h => by omega, hC2'.trans hC1⟩
      · have : heldL (takeS s x).l = fun name => heldL s.l name ++ heldX x x.lets.length name := by funext name; exact heldL_take s.l x name
        rw [this]; exact hL1
      · refine ⟨fun y hy => ?_, hS.ok.2⟩
        rcases List.mem_append.1 hy with hy | hy
        · exact hS.ok.1 y hy
        · obtain rfl := List.mem_singleton.1 hy; exact ⟨hb.ok, hE0⟩
end Go.Proofs.Ythiijdbiikljpaa.Mbx
