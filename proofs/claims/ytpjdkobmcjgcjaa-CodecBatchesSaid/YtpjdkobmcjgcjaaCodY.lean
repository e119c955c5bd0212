/- The reference's functions that read: notes, entries. -/
import Derived.Test.YtpjdkobmcjgcjaaCodX
namespace Go.Proofs.Ytpjdkobmcjgcjaa.Cod
open Go Go.RowKit Go.Proofs.Ytpjdkobmcjgcjaa.KW Go.Proofs.Ytpjdkobmcjgcjaa.Words Go.Proofs.Ytpjdkobmcjgcjaa.Grp
set_option linter.unusedVariables false
set_option linter.unusedSimpArgs false
set_option maxRecDepth 100000
theorem RReadEntries_ok (q : Option Addr) (c : Nat) (b : List UInt8) (w : World) (hb : Bs w q c b) (hlen : b.length ≤ 1099511627776) :
    Ct Try.prog 20 #[.slice q b.length c] w (fun v w' => ∃ ao' c', v = .tuple #[.slice ao' (entsR b).length c', .int .i64 (entsRE b : Int)] ∧ Els (fun k => k < w.heap.size) w' 2 REnt ao' c' (entsR b) ∧ Ext w w') := by
  refine Ct.enter [(0, .slice q b.length c)] Try.func20 rfl rfl rfl rfl ?_
  obtain ⟨n, hn⟩ : ∃ n, n = (intS 1000 (0, b)).1 := ⟨_, rfl⟩
  obtain ⟨k, hk⟩ : ∃ k, k = (sizeS (intS 1000 (0, b)).1 (intS 1000 (0, b)).2).1 := ⟨_, rfl⟩
  obtain ⟨s0, hs0⟩ : ∃ s, s = (sizeS (intS 1000 (0, b)).1 (intS 1000 (0, b)).2).2 := ⟨_, rfl⟩
  have hn1000 : n ≤ 1000 := by rw [hn]; exact intS_le _ _
  have hk20 : k ≤ 1048576 := by rw [hk]; exact intS_le 1048576 _
  have hES : entsS b = rdEnts k n s0 := by rw [hn, hk, hs0]; rfl
  refine C.seq ?_
  refine C.region ?_
  refine W.assign rfl rfl ?_
  refine W.assign rfl rfl ?_
  refine W.nil ?_
  refine At.thenCode ?_
  refine C.seq ?_
  refine C.region ?_
  refine W.move rfl rfl ?_
  refine W.buildS (fs := _) [(0, 1), (1, 1), (2, 1)] (RdrC q c b) [.slice none 0 0, .int .i64 0, .int .i64 0] Try.underlying98 (by kernel_rfl) (by kernel_rfl) rfl rfl rfl ?_
  refine W.box (RdrC q c b) rfl rfl rfl ?_
  intro g wg hg hXg hBg
  have hr0 : Rdr wg g q c b (0, b) := Rdr.mk' hBg (hb.ext hXg) (far_new hb (by omega))
  refine W.assign rfl rfl ?_
  refine W.nil ?_
  refine At.thenCode ?_
  refine C.seq ?_
  refine C.region ?_
  refine W.move rfl rfl ?_
  refine W.call Try.call48 rfl (Cod.Rmost_ok g q c b (0, b) 1000 _ hr0 hlen (by decide)) rfl ?_
  rintro v14 w14 ⟨rfl, hP14⟩
  refine W.assign rfl rfl ?_
  refine W.nil ?_
  refine At.thenCode ?_
  refine C.seq ?_
  refine C.region ?_
  refine W.move rfl rfl ?_
  refine W.move rfl rfl ?_
  refine W.call Try.call49 rfl (Cod.Rsize_ok g q c b (intS 1000 (0, b)).2 (intS 1000 (0, b)).1 _ hP14.rdr hlen) rfl ?_
  rintro v15 w15 ⟨rfl, hP15'⟩
  have hP15 := hP14.trans hP15'
  rw [← hk, ← hn]
  rw [← hs0] at hP15
  have hX15 := hP15.old (Nat.le_of_eq hg.symm) hXg
  refine W.assign rfl rfl ?_
  refine W.nil ?_
  refine At.thenCode ?_
  refine C.seq ?_
  refine C.region ?_
  refine W.assign rfl rfl ?_
  refine W.nil ?_
  refine At.thenCode ?_
  refine C.seq ?_
  refine C.seq ?_
  refine C.region ?_
  refine W.assign rfl rfl ?_
  refine W.nil ?_
  refine At.thenCode ?_
  refine C.block ?_
  refine C.loop (X := Nat × Value × (List Ent) × St) (fun x_ => [(0, .slice q b.length c), (4, .pointer (some ⟨g, 0, none⟩)), (5, .int .i64 (n : Int)), (6, .int .i64 (k : Int)), (7, x_.2.1), (8, .int .i64 (x_.1 : Int))]) (fun x_ wl => x_.1 ≤ n ∧ Ext w wl ∧ Rdr wl g q c b x_.2.2.2 ∧ OwE (fun q => q < w.heap.size ∨ q = g) wl w.heap.size 36 2 REnt x_.2.1 x_.2.2.1 ∧ x_.2.1.ownBlock ≠ some g ∧ x_.2.2.1.length = x_.1 ∧ (rdEnts k n s0).1 = x_.2.2.1 ++ (rdEnts k (n - x_.1) x_.2.2.2).1 ∧ (rdEnts k n s0).2 = (rdEnts k (n - x_.1) x_.2.2.2).2) (fun x_ => n - x_.1) (0, Value.slice none 0 0, [], s0) (Sub.cons (rfl) (Sub.cons (rfl) (Sub.cons (rfl) (Sub.cons (rfl) (Sub.cons (rfl) (Sub.cons (rfl) (Sub.nil))))))) ?start1 ?_
  case start1 =>
    show (0) ≤ n ∧ Ext w _ ∧ Rdr _ g q c b (s0) ∧ OwE (fun q => q < w.heap.size ∨ q = g) _ w.heap.size 36 2 REnt (Value.slice none 0 0) ([]) ∧ (Value.slice none 0 0).ownBlock ≠ some g ∧ ([]).length = (0) ∧ (rdEnts k n s0).1 = ([]) ++ (rdEnts k (n - (0)) (s0)).1 ∧ (rdEnts k n s0).2 = (rdEnts k (n - (0)) (s0)).2
    exact ⟨by omega, hX15, hP15.rdr, OwE.nil _ _ _ _ _ _, (by intro e; cases e), rfl, rfl, rfl⟩
  rintro ⟨i, v, xs, s⟩ wl hI_
  replace hI_ : i ≤ n ∧ Ext w wl ∧ Rdr wl g q c b s ∧ OwE (fun q => q < w.heap.size ∨ q = g) wl w.heap.size 36 2 REnt v xs ∧ v.ownBlock ≠ some g ∧ xs.length = i ∧ (rdEnts k n s0).1 = xs ++ (rdEnts k (n - i) s).1 ∧ (rdEnts k n s0).2 = (rdEnts k (n - i) s).2 := hI_
  obtain ⟨hi, hXl, hRl, hOl, hnl, hxl, hq1, hq2⟩ := hI_
  refine C.weaken (l' := [(0, .slice q b.length c), (4, .pointer (some ⟨g, 0, none⟩)), (5, .int .i64 (n : Int)), (6, .int .i64 (k : Int)), (7, v), (8, .int .i64 (i : Int))]) (Sub.cons (rfl) (Sub.cons (rfl) (Sub.cons (rfl) (Sub.cons (rfl) (Sub.cons (rfl) (Sub.cons (rfl) (Sub.nil))))))) ?_
  obtain ⟨p, e, hBl, hpl, hel, hsl⟩ := hRl.out
  have hse : s.1 = e := by rw [hsl]
  refine C.seq ?_
  refine C.seq ?_
  refine C.region ?_
  refine W.move rfl rfl ?_
  refine W.move rfl rfl ?_
  refine W.lssI rfl rfl rfl ?_
  refine W.move rfl rfl ?_
  first | refine W.splitD (fun g22 => ?_) (fun g22 => ?_) | refine W.splitB (fun g22 => ?_) (fun g22 => ?_)
  · refine W.wants rfl rfl rfl rfl ?_
    refine W.move rfl rfl ?_
    refine W.wants rfl rfl rfl rfl ?_
    refine W.nilCheck rfl rfl ?_
    refine W.wants rfl rfl rfl rfl ?_
    refine W.fieldB (off := 2) (size := 1) (t := 3) (Fld.of (by kernel_rfl)) rfl rfl rfl ?_
    refine W.wants rfl rfl rfl rfl ?_
    refine W.loadB rfl Try.underlying3 rfl (by assumption) rfl rfl ?_
    refine W.wants rfl rfl rfl rfl ?_
    refine W.eqlI rfl rfl rfl ?_
    refine W.pickT rfl rfl rfl ?_
    refine W.nil ?_
    refine At.thenCode ?_
    first | refine C.condD rfl (fun c28 => ?_) (fun c28 => ?_) | refine C.cond rfl (fun c28 => ?_) (fun c28 => ?_)
    · have hi2 : i < n := by omega
      have he0 : s.1 = 0 := by omega
      have hst := rdEnts_step (k := k) (n := n - i - 1) he0
      rw [show n - i - 1 + 1 = n - i by omega] at hst
      rw [hst] at hq1 hq2
      have hgw : w.heap.size ≤ g := Nat.le_of_eq hg.symm
      refine C.skip ?_
      refine At.thenCode ?_
      refine C.seq ?_
      refine C.block ?_
      refine C.seq ?_
      refine C.region ?_
      refine W.move rfl rfl ?_
      refine W.call Try.call50 rfl (Cod.Relement_ok g q c b s _ hRl hlen) rfl ?_
      rintro v32 w32 ⟨rfl, hP32⟩
      have hr32 := hP32.rdr
      have hO32 : OwE (fun q => q < w.heap.size ∨ q = g) w32 w.heap.size 36 2 REnt v xs := OwE.chg rEnt hOl (hP32.chg.mono fun q h => Or.inr h) (fun q hq hA => by have := hOl.lt q hq; rcases hA with h | rfl; omega; exact hnl hq)
      have hX32 := hP32.old hgw hXl
      refine W.assign rfl rfl ?_
      refine W.nil ?_
      refine At.thenCode ?_
      refine C.region ?_
      refine W.move rfl rfl ?_
      refine W.move rfl rfl ?_
      refine W.move rfl rfl ?_
      refine W.move rfl rfl ?_
      refine W.call Try.call51 rfl (Cod.Rtake_ok g q c b (elemS s).2 k _ hr32 hlen (by omega)) rfl ?_
      rintro v35 w35 ⟨ao35, c35, rfl, hN35, hP35⟩
      have hO35 : OwE (fun q => q < w.heap.size ∨ q = g) w35 w.heap.size 36 2 REnt v xs := OwE.chg rEnt hO32 (hP35.chg.mono fun q h => Or.inr h) (fun q hq hA => by have := hOl.lt q hq; rcases hA with h | rfl; omega; exact hnl hq)
      have hX35 := hP35.old hgw hX32
      obtain ⟨box, hbx⟩ : ∃ box, box = (takeS k (elemS s).2).1 := ⟨_, rfl⟩
      rw [← hbx] at hN35 hq1 ⊢
      refine W.buildS (fs := _) [(0, 1), (1, 1)] [u64V (elemS s).1, .slice ao35 box.length c35] [.int .u64 0, .slice none 0 0] Try.underlying36 (by kernel_rfl) (by kernel_rfl) rfl rfl rfl ?_
      refine W.litS [u64V (elemS s).1, .slice ao35 box.length c35] EEnt Try.underlying49 rfl rfl (by decide) rfl ?_
      intro g37 w37 hg37 hX37 _ hs37
      have hO37 := OwE.ext rEnt hO35 hX37
      have hl32 := hP32.chg.size
      have hl35 := hP35.chg.size
      have hl37 := hX37.size
      have hgl := hRl.lt
      have hR37 : REnt (fun q => (q < w.heap.size ∨ q = g) ∨ v.ownBlock = some q) w37 [u64V (elemS s).1, .slice ao35 box.length c35] ((elemS s).1, box) :=
        ⟨_, rfl, (hN35.ext hX37).byt (fun q hq => by rcases hq with (h | rfl) | h; have := hXl.size; omega; omega; have := (hOl.lt q h).2; omega), elemS_lt' s⟩
      refine W.appendE (ys := [((elemS s).1, box)]) rEnt EEnt Try.underlying49 rfl rfl hO37 (Els.lit hs37 hR37 (fun hq => by rcases hq with (h | h) | h; have := hX35.size; omega; omega; have := (hOl.lt _ h).2; omega)) (by simp; omega) (by simp; omega) (by have := hX35.size; omega) rfl ?_
      intro v38 w38 hO38 hg38 hl38
      have hC38 : Ext w w38 := (hX35.ext hX37).news (Chg.of_grown hg38) (fun q hq => Or.inr ((hO37.lt q hq.symm).1))
      have hr38 : Rdr w38 g q c b (takeS k (elemS s).2).2 := by
        have h1 := hP35.rdr.ext hX37
        obtain ⟨p', e', r1, r2⟩ := h1.out
        exact ⟨⟨p', e', r1.chg (Chg.of_grown hg38) (fun e => hnl e.symm), r2⟩, hb.ext hC38, h1.far⟩
      have hn38 : v38.ownBlock ≠ some g := by
        rcases hl38 with h | ⟨q, h, hq⟩
        · rw [h]; exact hnl
        · rw [h]; intro e; obtain rfl := Option.some.inj e; omega
      refine W.assign rfl rfl ?_
      refine W.nil ?_
      refine At.blockNormal ?_
      refine At.thenCode ?_
      refine C.region ?_
      refine W.move rfl rfl ?_
      first | refine W.addI rfl rfl (by omega) rfl ?_ | refine W.addW rfl rfl rfl ?_
      refine W.assign rfl rfl ?_
      refine W.nil ?_
      refine At.thenRound (i + 1, v38, xs ++ [((elemS s).1, box)], (takeS k (elemS s).2).2) (Sub.cons (rfl) (Sub.cons (rfl) (Sub.cons (rfl) (Sub.cons (rfl) (Sub.cons (rfl) (Sub.cons (look_eq rfl (iV (by omega))) (Sub.nil))))))) (show (i + 1) ≤ n ∧ Ext w _ ∧ Rdr _ g q c b ((takeS k (elemS s).2).2) ∧ OwE (fun q => q < w.heap.size ∨ q = g) _ w.heap.size 36 2 REnt (v38) (xs ++ [((elemS s).1, box)]) ∧ (v38).ownBlock ≠ some g ∧ (xs ++ [((elemS s).1, box)]).length = (i + 1) ∧ (rdEnts k n s0).1 = (xs ++ [((elemS s).1, box)]) ++ (rdEnts k (n - (i + 1)) ((takeS k (elemS s).2).2)).1 ∧ (rdEnts k n s0).2 = (rdEnts k (n - (i + 1)) ((takeS k (elemS s).2).2)).2 from ?_) (show n - (i + 1) < n - i from ?_)
      · refine ⟨by omega, hC38, hr38, hO38, hn38, by simp; omega, ?_, ?_⟩
        · rw [hq1, show n - (i + 1) = n - i - 1 by omega]; simp
        · rw [hq2, show n - (i + 1) = n - i - 1 by omega]
      · omega
    · -- known too
      have hstop : s.1 ≠ 0 ∨ n - i = 0 := by first | (left; omega) | (right; omega)
      rw [rdEnts_stop hstop] at hq1 hq2
      have hE1 : (entsS b).1 = xs := by rw [hES, hq1]; simp
      have hE2 : (entsS b).2 = s := by rw [hES, hq2]
      have hRE : entsRE b = overS s := by unfold entsRE; rw [hE2]
      refine C.exit ?_
      refine At.thenExit ?_
      refine At.thenExit ?_
      refine At.blockSelf ?_
      refine At.thenCode ?_
      refine C.seq ?_
      refine C.region ?_
      refine W.move rfl rfl ?_
      refine W.call Try.call52 rfl (Cod.Rend_ok _ _ _ _ _ _ (by assumption)) rfl ?_
      rintro v42 w42 ⟨rfl, hC42⟩
      have hX42 : Ext w w42 := hXl.news hC42 fun q hq => Or.inr (by omega)
      have hO42 : OwE (fun q => q < w.heap.size ∨ q = g) w42 w.heap.size 36 2 REnt v xs := OwE.chg rEnt hOl (hC42.mono fun q h => Or.inr h) (fun q hq hA => by have := hOl.lt q hq; rcases hA with h | rfl; omega; exact hnl hq)
      refine W.assign rfl rfl ?_
      refine W.nil ?_
      refine At.thenCode ?_
      refine C.seq ?_
      refine C.seq ?_
      refine C.region ?_
      refine W.move rfl rfl ?_
      refine W.neqI rfl rfl rfl ?_
      refine W.nil ?_
      refine At.thenCode ?_
      first | refine C.condD rfl (fun c44 => ?_) (fun c44 => ?_) | refine C.cond rfl (fun c44 => ?_) (fun c44 => ?_)
      · have hR : entsR b = [] := by unfold entsR; rw [if_neg (by rw [hRE]; omega)]
        refine C.seq ?_
        refine C.region ?_
        refine W.move rfl rfl ?_
        refine W.assign rfl rfl ?_
        refine W.assign rfl rfl ?_
        refine W.nil ?_
        refine At.thenCode ?_
        refine C.ret ?_
        refine At.thenRet ?_
        refine At.ret2 Try.results20 rfl rfl ?_
        first
        | exact ⟨none, 0, by rw [hR, hRE]; rfl, by rw [hR]; exact Els.nil _ _ _ _, hX42⟩
        | exact ⟨aR, cR, by rw [hR, h0]; rfl, by rw [hR]; exact hElR.new rEnt (fun q hq _ => Or.inl hq), hX42⟩
      · have h0 : entsRE b = 0 := by rw [hRE]; omega
        have hR : entsR b = xs := by unfold entsR; rw [if_pos h0, hE1]
        obtain ⟨aR, cR, rfl, hElR, _⟩ := OwE.form rEnt hO42 (fun q hq hA => by have := hOl.lt q hq; rcases hA with h | rfl; omega; exact hnl hq)
        refine C.skip ?_
        refine At.thenCode ?_
        refine C.seq ?_
        refine C.region ?_
        refine W.move rfl rfl ?_
        refine W.assign rfl rfl ?_
        refine W.assign rfl rfl ?_
        refine W.nil ?_
        refine At.thenCode ?_
        refine C.ret ?_
        refine At.ret2 Try.results20 rfl rfl ?_
        first
        | exact ⟨none, 0, by rw [hR, hRE]; rfl, by rw [hR]; exact Els.nil _ _ _ _, hX42⟩
        | exact ⟨aR, cR, by rw [hR, h0]; rfl, by rw [hR]; exact hElR.new rEnt (fun q hq _ => Or.inl hq), hX42⟩
  · refine W.skips rfl rfl rfl rfl rfl rfl ?_
    refine W.skips rfl rfl rfl rfl rfl rfl ?_
    refine W.skips rfl rfl rfl rfl rfl rfl ?_
    refine W.skips rfl rfl rfl rfl rfl rfl ?_
    refine W.skips rfl rfl rfl rfl rfl rfl ?_
    refine W.pickF rfl rfl rfl ?_
    refine W.nil ?_
    refine At.thenCode ?_
    refine C.condF rfl ?_
    -- known too
    have hstop : s.1 ≠ 0 ∨ n - i = 0 := by first | (left; omega) | (right; omega)
    rw [rdEnts_stop hstop] at hq1 hq2
    have hE1 : (entsS b).1 = xs := by rw [hES, hq1]; simp
    have hE2 : (entsS b).2 = s := by rw [hES, hq2]
    have hRE : entsRE b = overS s := by unfold entsRE; rw [hE2]
    refine C.exit ?_
    refine At.thenExit ?_
    refine At.thenExit ?_
    refine At.blockSelf ?_
    refine At.thenCode ?_
    refine C.seq ?_
    refine C.region ?_
    refine W.move rfl rfl ?_
    refine W.call Try.call52 rfl (Cod.Rend_ok _ _ _ _ _ _ (by assumption)) rfl ?_
    rintro v42 w42 ⟨rfl, hC42⟩
    have hX42 : Ext w w42 := hXl.news hC42 fun q hq => Or.inr (by omega)
    have hO42 : OwE (fun q => q < w.heap.size ∨ q = g) w42 w.heap.size 36 2 REnt v xs := OwE.chg rEnt hOl (hC42.mono fun q h => Or.inr h) (fun q hq hA => by have := hOl.lt q hq; rcases hA with h | rfl; omega; exact hnl hq)
    refine W.assign rfl rfl ?_
    refine W.nil ?_
    refine At.thenCode ?_
    refine C.seq ?_
    refine C.seq ?_
    refine C.region ?_
    refine W.move rfl rfl ?_
    refine W.neqI rfl rfl rfl ?_
    refine W.nil ?_
    refine At.thenCode ?_
    first | refine C.condD rfl (fun c44 => ?_) (fun c44 => ?_) | refine C.cond rfl (fun c44 => ?_) (fun c44 => ?_)
    · have hR : entsR b = [] := by unfold entsR; rw [if_neg (by rw [hRE]; omega)]
      refine C.seq ?_
      refine C.region ?_
      refine W.move rfl rfl ?_
      refine W.assign rfl rfl ?_
      refine W.assign rfl rfl ?_
      refine W.nil ?_
      refine At.thenCode ?_
      refine C.ret ?_
      refine At.thenRet ?_
      refine At.ret2 Try.results20 rfl rfl ?_
      first
      | exact ⟨none, 0, by rw [hR, hRE]; rfl, by rw [hR]; exact Els.nil _ _ _ _, hX42⟩
      | exact ⟨aR, cR, by rw [hR, h0]; rfl, by rw [hR]; exact hElR.new rEnt (fun q hq _ => Or.inl hq), hX42⟩
    · have h0 : entsRE b = 0 := by rw [hRE]; omega
      have hR : entsR b = xs := by unfold entsR; rw [if_pos h0, hE1]
      obtain ⟨aR, cR, rfl, hElR, _⟩ := OwE.form rEnt hO42 (fun q hq hA => by have := hOl.lt q hq; rcases hA with h | rfl; omega; exact hnl hq)
      refine C.skip ?_
      refine At.thenCode ?_
      refine C.seq ?_
      refine C.region ?_
      refine W.move rfl rfl ?_
      refine W.assign rfl rfl ?_
      refine W.assign rfl rfl ?_
      refine W.nil ?_
      refine At.thenCode ?_
      refine C.ret ?_
      refine At.ret2 Try.results20 rfl rfl ?_
      first
      | exact ⟨none, 0, by rw [hR, hRE]; rfl, by rw [hR]; exact Els.nil _ _ _ _, hX42⟩
      | exact ⟨aR, cR, by rw [hR, h0]; rfl, by rw [hR]; exact hElR.new rEnt (fun q hq _ => Or.inl hq), hX42⟩

theorem RReadNote_ok (q : Option Addr) (c : Nat) (b : List UInt8) (w : World) (hb : Bs w q c b) (hlen : b.length ≤ 1099511627776) :
    Ct Try.prog 25 #[.slice q b.length c] w (fun v w' => v = .tuple #[.agg (noteC (noteR b)).toArray, .int .i64 (noteRE b : Int)] ∧ Ext w w') := by
  refine Ct.enter [(0, .slice q b.length c)] Try.func25 rfl rfl rfl rfl ?_
  have hnl := noteC_length (noteS_ok b)
  obtain ⟨s2, hs2⟩ : ∃ s, s = (numS (numS (0, b)).2).2 := ⟨_, rfl⟩
  have hkl := takeS_len 32 s2
  have hk32 := keyS_len s2
  obtain ⟨xs, hxs⟩ : ∃ xs, xs = (takeS 32 s2).1 := ⟨_, rfl⟩
  have hks : keyS s2 = (xs ++ List.replicate (32 - xs.length) 0, (takeS 32 s2).2) := by rw [hxs]; rfl
  rw [← hxs] at hkl
  have hNS : noteS b = (⟨(numS (0, b)).1, (numS (numS (0, b)).2).1, (keyS s2).1⟩, (keyS s2).2) := by rw [hs2]; rfl
  rw [hks] at hk32 hNS
  refine C.seq ?_
  refine C.region ?_
  refine W.alloc (z := .agg zeroNoteC.toArray) zeroNoteC (by kernel_rfl) rfl rfl ?_
  intro g2 w2 hg2 hX2 hB2
  refine W.assign rfl rfl ?_
  refine W.nil ?_
  refine At.thenCode ?_
  refine C.seq ?_
  refine C.region ?_
  refine W.move rfl rfl ?_
  refine W.buildS (fs := _) [(0, 1), (1, 1), (2, 1)] (RdrC q c b) [.slice none 0 0, .int .i64 0, .int .i64 0] Try.underlying98 (by kernel_rfl) (by kernel_rfl) rfl rfl rfl ?_
  refine W.box (RdrC q c b) rfl rfl rfl ?_
  intro g9 w9 hg9 hX9 hB9
  have hX9a := hX2.ext hX9
  have hr9 : Rdr w9 g9 q c b (0, b) := Rdr.mk' hB9 (hb.ext hX9a) (far_new hb (by have := hX2.size; omega))
  have hB2a := hB2.ext hX9
  have hl2 := hB2.lt
  have hl9 := hB9.lt
  have hgw : w.heap.size ≤ g9 := by have := hX2.size; omega
  refine W.assign rfl rfl ?_
  refine W.nil ?_
  refine At.thenCode ?_
  refine C.seq ?_
  refine C.region ?_
  refine W.alloc (z := .agg zeroNoteC.toArray) zeroNoteC (by kernel_rfl) rfl rfl ?_
  intro g5 w5 hg5 hX5 hB5
  have hr5 := hr9.ext hX5
  have hB2b := hB2a.ext hX5
  have hX5a := hX9a.ext hX5
  refine W.nil ?_
  refine At.thenCode ?_
  refine C.seq ?_
  refine C.region ?_
  refine W.move rfl rfl ?_
  refine W.call Try.call54 rfl (Cod.Rnumber_ok _ _ _ _ _ _ (by assumption) (by assumption)) rfl ?_
  rintro v13 w13 ⟨rfl, hP13⟩
  have hB13 := hB5.chg hP13.chg (by omega)
  have hB2c := hB2b.chg hP13.chg (by omega)
  have hX13 := hP13.old hgw hX5a
  refine W.fieldB (off := 0) (size := 1) (t := 22) (Fld.of (by kernel_rfl)) rfl rfl rfl ?_
  refine W.store1 rfl rfl rfl hB13 (by decide) (by kernel_rfl) ?_
  intro w14 hc14 hB14
  have hB14 : Bk w14 g5 ([u64V (numS (0, b)).1, u64V 0] ++ Z32) := hB14
  have hX14 : Ext w w14 := hX13.news hc14 fun k hk => Or.inr (by have := hX9a.size; omega)
  have hr14 : Rdr w14 g9 q c b (numS (0, b)).2 := by
    obtain ⟨p, e, r1, r2⟩ := hP13.rdr.out
    exact ⟨⟨p, e, r1.chg hc14 (by omega), r2⟩, hb.ext hX14, hP13.rdr.far⟩
  have hB2d := hB2c.chg hc14 (by omega)
  refine W.nil ?_
  refine At.thenCode ?_
  refine C.seq ?_
  refine C.region ?_
  refine W.move rfl rfl ?_
  refine W.call Try.call54 rfl (Cod.Rnumber_ok _ _ _ _ _ _ (by assumption) (by assumption)) rfl ?_
  rintro v16 w16 ⟨rfl, hP16⟩
  have hB16 := hB14.chg hP16.chg (by omega)
  have hB2e := hB2d.chg hP16.chg (by omega)
  have hX16 := hP16.old hgw hX14
  refine W.fieldB (off := 1) (size := 1) (t := 22) (Fld.of (by kernel_rfl)) rfl rfl rfl ?_
  refine W.store1 rfl rfl rfl hB16 (by simp) (by kernel_rfl) ?_
  intro w17 hc17 hB17
  have hB17 : Bk w17 g5 ([u64V (numS (0, b)).1, u64V (numS (numS (0, b)).2).1] ++ Z32) := hB17
  have hX17 : Ext w w17 := hX16.news hc17 fun k hk => Or.inr (by have := hX9a.size; omega)
  have hr17 : Rdr w17 g9 q c b s2 := by
    obtain ⟨p, e, r1, r2⟩ := hP16.rdr.out
    rw [hs2]
    exact ⟨⟨p, e, r1.chg hc17 (by omega), r2⟩, hb.ext hX17, hP16.rdr.far⟩
  have hB2f := hB2e.chg hc17 (by omega)
  refine W.nil ?_
  refine At.thenCode ?_
  refine C.seq ?_
  refine C.region ?_
  refine W.move rfl rfl ?_
  refine W.call Try.call51 rfl (Cod.Rtake_ok g9 q c b s2 32 _ hr17 hlen (by decide)) rfl ?_
  rintro v19 w19 ⟨ao19, c19, rfl, hN19, hP19⟩
  rw [← hxs] at hN19 ⊢
  have hB19 := hB17.chg hP19.chg (by omega)
  have hB2g := hB2f.chg hP19.chg (by omega)
  have hX19 := hP19.old hgw hX17
  have hfz : Z32 = (fillB (xs ++ List.replicate (32 - xs.length) 0) 32 0).map byteV := by rw [fillB_zero]; rfl
  rw [hfz] at hB19
  have hl17 := hB17.lt
  refine W.assign rfl rfl ?_
  refine W.nil ?_
  refine At.thenCode ?_
  refine C.seq ?_
  refine C.seq ?_
  refine C.region ?_
  refine W.assign rfl rfl ?_
  refine W.nil ?_
  refine At.thenCode ?_
  refine C.block ?_
  refine C.loop (X := Nat) (fun x_ => [(0, .slice q b.length c), (2, .pointer (some ⟨g2, 0, none⟩)), (4, .pointer (some ⟨g9, 0, none⟩)), (5, .pointer (some ⟨g5, 0, none⟩)), (6, .slice ao19 xs.length c19), (7, .int .i64 (x_ : Int))]) (fun x_ wl => x_ ≤ xs.length ∧ Chg (fun k => k = g5) w19 wl ∧ Bk wl g5 ([u64V (numS (0, b)).1, u64V (numS (numS (0, b)).2).1] ++ (fillB (xs ++ List.replicate (32 - xs.length) 0) 32 x_).map byteV)) (fun x_ => xs.length - x_) (0) (Sub.cons (rfl) (Sub.cons (rfl) (Sub.cons (rfl) (Sub.cons (rfl) (Sub.cons (rfl) (Sub.cons (rfl) (Sub.nil))))))) ?start1 ?_
  case start1 =>
    show (0) ≤ xs.length ∧ Chg (fun k => k = g5) w19 _ ∧ Bk _ g5 ([u64V (numS (0, b)).1, u64V (numS (numS (0, b)).2).1] ++ (fillB (xs ++ List.replicate (32 - xs.length) 0) 32 (0)).map byteV)
    exact ⟨by omega, Chg.refl _ _, hB19⟩
  rintro i wl hI_
  replace hI_ : i ≤ xs.length ∧ Chg (fun k => k = g5) w19 wl ∧ Bk wl g5 ([u64V (numS (0, b)).1, u64V (numS (numS (0, b)).2).1] ++ (fillB (xs ++ List.replicate (32 - xs.length) 0) 32 i).map byteV) := hI_
  obtain ⟨hi, hCl, hBl⟩ := hI_
  refine C.weaken (l' := [(0, .slice q b.length c), (2, .pointer (some ⟨g2, 0, none⟩)), (4, .pointer (some ⟨g9, 0, none⟩)), (5, .pointer (some ⟨g5, 0, none⟩)), (6, .slice ao19 xs.length c19), (7, .int .i64 (i : Int))]) (Sub.cons (rfl) (Sub.cons (rfl) (Sub.cons (rfl) (Sub.cons (rfl) (Sub.cons (rfl) (Sub.cons (rfl) (Sub.nil))))))) ?_
  refine C.seq ?_
  refine C.seq ?_
  refine C.region ?_
  refine W.move rfl rfl ?_
  refine W.move rfl rfl ?_
  refine W.lenS rfl Try.underlying27 rfl ?_
  refine W.lssI rfl rfl rfl ?_
  refine W.nil ?_
  refine At.thenCode ?_
  first | refine C.condD rfl (fun c23 => ?_) (fun c23 => ?_) | refine C.cond rfl (fun c23 => ?_) (fun c23 => ?_)
  · have hlt : i < xs.length := by omega
    have hNl : Bs wl ao19 c19 xs := hN19.1.chg hCl (fun ad ea hn hk => by have := hN19.2 ad ea (by simpa using hn); omega)
    refine C.skip ?_
    refine At.thenCode ?_
    refine C.seq ?_
    refine C.block ?_
    refine C.region ?_
    refine W.move rfl rfl ?_
    refine W.move rfl rfl ?_
    refine W.move rfl rfl ?_
    refine W.idx (v := byteV xs[i]) E8 Try.underlying27 Try.underlying5 rfl rfl hNl rfl (by omega) (by rw [Int.toNat_natCast]; exact get_byte hlt) rfl rfl ?_
    intro p29
    -- read with the address
    refine W.fieldB (off := 2) (size := 32) (t := 23) (Fld.of (by kernel_rfl)) rfl rfl rfl ?_
    refine W.indexA i X8 Try.underlying23 rfl rfl rfl (by omega) rfl ?_
    refine W.store1 rfl rfl rfl hBl (by rw [List.length_append, List.length_map, fillB_length hk32 (by omega)]; simp; omega) (by kernel_rfl) ?_
    intro w8 hc8 hB8
    have hB8' := key_fill hkl hlt [u64V (numS (0, b)).1, u64V (numS (numS (0, b)).2).1]
    have e2 : ([u64V (numS (0, b)).1, u64V (numS (numS (0, b)).2).1] : List Value).length + i = 0 + 2 + i * 1 := by simp
    rw [e2] at hB8'
    rw [hB8'] at hB8
    refine W.nil ?_
    refine At.blockNormal ?_
    refine At.thenCode ?_
    refine C.region ?_
    refine W.move rfl rfl ?_
    first | refine W.addI rfl rfl (by omega) rfl ?_ | refine W.addW rfl rfl rfl ?_
    refine W.assign rfl rfl ?_
    refine W.nil ?_
    refine At.thenRound (i + 1) (Sub.cons (rfl) (Sub.cons (rfl) (Sub.cons (rfl) (Sub.cons (rfl) (Sub.cons (rfl) (Sub.cons (look_eq rfl (iV (by omega))) (Sub.nil))))))) (show (i + 1) ≤ xs.length ∧ Chg (fun k => k = g5) w19 _ ∧ Bk _ g5 ([u64V (numS (0, b)).1, u64V (numS (numS (0, b)).2).1] ++ (fillB (xs ++ List.replicate (32 - xs.length) 0) 32 (i + 1)).map byteV) from ?_) (show xs.length - (i + 1) < xs.length - i from ?_)
    · exact ⟨by omega, hCl.trans hc8, hB8⟩
    · omega
  · obtain rfl : i = xs.length := by omega
    rw [key_full hkl] at hBl
    have hBl : Bk wl g5 (noteC (noteS b).1) := by rw [hNS]; exact hBl
    have hB2h := hB2g.chg hCl (by omega)
    have hXl : Ext w wl := hX19.news hCl fun k hk => Or.inr (by have := hX9a.size; omega)
    have hrl : Rdr wl g9 q c b (takeS 32 s2).2 := by
      obtain ⟨p, e, r1, r2⟩ := hP19.rdr.out
      exact ⟨⟨p, e, r1.chg hCl (by omega), r2⟩, hb.ext hXl, hP19.rdr.far⟩
    refine C.exit ?_
    refine At.thenExit ?_
    refine At.thenExit ?_
    refine At.blockSelf ?_
    refine At.thenCode ?_
    refine C.seq ?_
    refine C.region ?_
    refine W.move rfl rfl ?_
    refine W.call Try.call52 rfl (Cod.Rend_ok _ _ _ _ _ _ (by assumption)) rfl ?_
    rintro v34 w34 ⟨rfl, hC34⟩
    have hB34 := hBl.chg hC34 (by omega)
    have hB2i := hB2h.chg hC34 (by omega)
    have hX34 : Ext w w34 := hXl.news hC34 fun k hk => Or.inr (by omega)
    have hRE : noteRE b = overS (takeS 32 s2).2 := by unfold noteRE; rw [hNS]
    refine W.assign rfl rfl ?_
    refine W.nil ?_
    refine At.thenCode ?_
    refine C.seq ?_
    refine C.seq ?_
    refine C.region ?_
    refine W.move rfl rfl ?_
    refine W.neqI rfl rfl rfl ?_
    refine W.nil ?_
    refine At.thenCode ?_
    first | refine C.condD rfl (fun c36 => ?_) (fun c36 => ?_) | refine C.cond rfl (fun c36 => ?_) (fun c36 => ?_)
    · refine C.seq ?_
      refine C.region ?_
      refine W.buildS (fs := _) [(0, 1), (1, 1), (2, 32)] zeroNoteC zeroNoteC Try.underlying25 (by kernel_rfl) (by kernel_rfl) rfl rfl rfl ?_
      refine W.move rfl rfl ?_
      refine W.storeA zeroNoteC rfl rfl hB2i rfl (by kernel_rfl) (by rw [← zeroNoteC_eq]; exact noteC_one _) ?_
      intro w24 hc24 hB24
      refine W.assign rfl rfl ?_
      refine W.nil ?_
      refine At.thenCode ?_
      refine C.ret ?_
      refine At.thenRet ?_
      -- RESULT IN A CELL
      refine At.retCT Try.results25 rfl rfl (hB24.cells (o := 0)) Try.underlying25 rfl (by kernel_rfl) ?_
      rw [List.drop_zero]
      have hR : noteR b = zeroNote := by unfold noteR; rw [if_neg (by rw [hRE]; omega)]
      exact ⟨by rw [hR, hRE]; rfl, hX34.news hc24 fun k hk => Or.inr (by omega)⟩
    · refine C.skip ?_
      refine At.thenCode ?_
      refine C.seq ?_
      refine C.region ?_
      refine W.loadA rfl (hB34.cells (o := 0)) Try.underlying25 rfl (by rw [List.drop_zero, hnl]; kernel_rfl) rfl ?_
      rw [List.drop_zero]
      refine W.storeA (noteC (noteS b).1) rfl rfl hB2i (by rw [hnl]; rfl) (by rw [hnl]; kernel_rfl) (noteC_one _) ?_
      intro w26 hc26 hB26
      refine W.assign rfl rfl ?_
      refine W.nil ?_
      refine At.thenCode ?_
      refine C.ret ?_
      -- RESULT IN A CELL
      refine At.retCT Try.results25 rfl rfl (hB26.cells (o := 0)) Try.underlying25 rfl (by rw [List.drop_zero, hnl]; kernel_rfl) ?_
      rw [List.drop_zero]
      have h0 : noteRE b = 0 := by rw [hRE]; omega
      have hR : noteR b = (noteS b).1 := by unfold noteR; rw [if_pos h0]
      exact ⟨by rw [hR, h0]; rfl, hX34.news hc26 fun k hk => Or.inr (by omega)⟩
end Go.Proofs.Ytpjdkobmcjgcjaa.Cod
