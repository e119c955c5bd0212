/- Package codec's functions that read: entries and submissions. -/
import Derived.Test.YtpjdkobmcjgcjaaCodS
namespace Go.Proofs.Ytpjdkobmcjgcjaa.Cod
open Go Go.RowKit Go.Proofs.Ytpjdkobmcjgcjaa.KW Go.Proofs.Ytpjdkobmcjgcjaa.Words Go.Proofs.Ytpjdkobmcjgcjaa.Grp
set_option linter.unusedVariables false
set_option linter.unusedSimpArgs false
set_option maxRecDepth 100000
theorem NewB.byt {w w' : World} {A : Nat → Prop} {ao : Option Addr} {c : Nat} {xs : List UInt8} (h : NewB w w' ao c xs) (hA : ∀ k, A k → k < w.heap.size) : RByt A w' [.slice ao xs.length c] xs := ⟨ao, c, rfl, h.1, fun ad e hn ha => by have := h.2 ad e hn; have := hA _ ha; omega⟩
theorem elemS_lt' (s : St) : (elemS s).1 < M64 := elemS_lt s
theorem rdEnts_step {k n : Nat} {s : St} (h : s.1 = 0) : rdEnts k (n + 1) s = (((elemS s).1, (takeS k (elemS s).2).1) :: (rdEnts k n (takeS k (elemS s).2).2).1, (rdEnts k n (takeS k (elemS s).2).2).2) := by conv => lhs; unfold rdEnts; rw [if_pos h]
theorem rdEnts_stop {k n : Nat} {s : St} (h : s.1 ≠ 0 ∨ n = 0) : rdEnts k n s = ([], s) := by
  rcases h with h | rfl
  · exact rdEnts_bad h
  · rfl
theorem ReadEntries_ok (q : Option Addr) (c : Nat) (b : List UInt8) (w : World) (hb : Bs w q c b) (hlen : b.length ≤ 1099511627776) :
    Ct Try.prog 19 #[.slice q b.length c] w (fun v w' => ∃ ao' c', v = .tuple #[.slice ao' (entsR b).length c', .int .i64 (entsRE b : Int)] ∧ Els (fun k => k < w.heap.size) w' 2 REnt ao' c' (entsR b) ∧ Ext w w') := by
  refine Ct.enter [(0, .slice q b.length c)] Try.func19 rfl rfl rfl rfl ?_
  obtain ⟨n, hn⟩ : ∃ n, n = (intS 1000 (0, b)).1 := ⟨_, rfl⟩
  obtain ⟨k, hk⟩ : ∃ k, k = (sizeS (intS 1000 (0, b)).1 (intS 1000 (0, b)).2).1 := ⟨_, rfl⟩
  obtain ⟨s0, hs0⟩ : ∃ s, s = (sizeS (intS 1000 (0, b)).1 (intS 1000 (0, b)).2).2 := ⟨_, rfl⟩
  have hn1000 : n ≤ 1000 := by rw [hn]; exact intS_le _ _
  have hk20 : k ≤ 1048576 := by rw [hk]; exact intS_le 1048576 _
  have hES : entsS b = rdEnts k n s0 := by rw [hn, hk, hs0]; rfl
  refine C.seq ?_
  refine C.region ?_
  refine W.assign rfl rfl ?_
  refine W.assign rfl rfl ?_
  refine W.nil ?_
  refine At.thenCode ?_
  refine C.seq ?_
  refine C.region ?_
  refine W.move rfl rfl ?_
  refine W.buildS (fs := _) [(0, 1), (1, 1), (2, 1)] (RdrC q c b) [.slice none 0 0, .int .i64 0, .int .i64 0] Try.underlying83 (by kernel_rfl) (by kernel_rfl) rfl rfl rfl ?_
  refine W.box (RdrC q c b) rfl rfl rfl ?_
  intro g wg hg hXg hBg
  have hr0 : Rdr wg g q c b (0, b) := Rdr.mk' hBg (hb.ext hXg) (far_new hb (by omega))
  refine W.assign rfl rfl ?_
  refine W.nil ?_
  refine At.thenCode ?_
  refine C.seq ?_
  refine C.region ?_
  refine W.move rfl rfl ?_
  refine W.call Try.call47 rfl (Cod.list_ok g q c b (0, b) 1000 _ hr0 hlen (by decide)) rfl ?_
  rintro v15 w15 ⟨rfl, hP15⟩
  rw [← hk, ← hn]
  rw [← hs0] at hP15
  have hX15 := hP15.old (Nat.le_of_eq hg.symm) hXg
  refine W.move rfl rfl ?_
  refine W.extract rfl rfl rfl ?_
  refine W.extract rfl rfl rfl ?_
  refine W.assign rfl rfl ?_
  refine W.assign rfl rfl ?_
  refine W.nil ?_
  refine At.thenCode ?_
  refine C.seq ?_
  refine C.region ?_
  refine W.assign rfl rfl ?_
  refine W.nil ?_
  refine At.thenCode ?_
  refine C.seq ?_
  refine C.seq ?_
  refine C.region ?_
  refine W.assign rfl rfl ?_
  refine W.nil ?_
  refine At.thenCode ?_
  refine C.block ?_
  refine C.loop (X := Nat × Value × (List Ent) × St) (fun x_ => [(0, .slice q b.length c), (4, .pointer (some ⟨g, 0, none⟩)), (5, .int .i64 (n : Int)), (6, .int .i64 (k : Int)), (7, x_.2.1), (8, .int .i64 (x_.1 : Int))]) (fun x_ wl => x_.1 ≤ n ∧ Ext w wl ∧ Rdr wl g q c b x_.2.2.2 ∧ OwE (fun q => q < w.heap.size ∨ q = g) wl w.heap.size 36 2 REnt x_.2.1 x_.2.2.1 ∧ x_.2.1.ownBlock ≠ some g ∧ x_.2.2.1.length = x_.1 ∧ (rdEnts k n s0).1 = x_.2.2.1 ++ (rdEnts k (n - x_.1) x_.2.2.2).1 ∧ (rdEnts k n s0).2 = (rdEnts k (n - x_.1) x_.2.2.2).2) (fun x_ => n - x_.1) (0, Value.slice none 0 0, [], s0) (Sub.cons (rfl) (Sub.cons (rfl) (Sub.cons (rfl) (Sub.cons (rfl) (Sub.cons (rfl) (Sub.cons (rfl) (Sub.nil))))))) ?start1 ?_
  case start1 =>
    show (0) ≤ n ∧ Ext w _ ∧ Rdr _ g q c b (s0) ∧ OwE (fun q => q < w.heap.size ∨ q = g) _ w.heap.size 36 2 REnt (Value.slice none 0 0) ([]) ∧ (Value.slice none 0 0).ownBlock ≠ some g ∧ ([]).length = (0) ∧ (rdEnts k n s0).1 = ([]) ++ (rdEnts k (n - (0)) (s0)).1 ∧ (rdEnts k n s0).2 = (rdEnts k (n - (0)) (s0)).2
    exact ⟨by omega, hX15, hP15.rdr, OwE.nil _ _ _ _ _ _, (by intro e; cases e), rfl, rfl, rfl⟩
  rintro ⟨i, v, xs, s⟩ wl hI_
  replace hI_ : i ≤ n ∧ Ext w wl ∧ Rdr wl g q c b s ∧ OwE (fun q => q < w.heap.size ∨ q = g) wl w.heap.size 36 2 REnt v xs ∧ v.ownBlock ≠ some g ∧ xs.length = i ∧ (rdEnts k n s0).1 = xs ++ (rdEnts k (n - i) s).1 ∧ (rdEnts k n s0).2 = (rdEnts k (n - i) s).2 := hI_
  obtain ⟨hi, hXl, hRl, hOl, hnl, hxl, hq1, hq2⟩ := hI_
  refine C.weaken (l' := [(0, .slice q b.length c), (4, .pointer (some ⟨g, 0, none⟩)), (5, .int .i64 (n : Int)), (6, .int .i64 (k : Int)), (7, v), (8, .int .i64 (i : Int))]) (Sub.cons (rfl) (Sub.cons (rfl) (Sub.cons (rfl) (Sub.cons (rfl) (Sub.cons (rfl) (Sub.cons (rfl) (Sub.nil))))))) ?_
  obtain ⟨p, e, hBl, hpl, hel, hsl⟩ := hRl.out
  have hse : s.1 = e := by rw [hsl]
  refine C.seq ?_
  refine C.seq ?_
  refine C.region ?_
  refine W.move rfl rfl ?_
  refine W.move rfl rfl ?_
  refine W.lssI rfl rfl rfl ?_
  refine W.move rfl rfl ?_
  first | refine W.splitD (fun g21 => ?_) (fun g21 => ?_) | refine W.splitB (fun g21 => ?_) (fun g21 => ?_)
  · refine W.wants rfl rfl rfl rfl ?_
    refine W.move rfl rfl ?_
    refine W.wants rfl rfl rfl rfl ?_
    refine W.nilCheck rfl rfl ?_
    refine W.wants rfl rfl rfl rfl ?_
    refine W.fieldB (off := 2) (size := 1) (t := 29) (Fld.of (by kernel_rfl)) rfl rfl rfl ?_
    refine W.wants rfl rfl rfl rfl ?_
    refine W.loadB rfl Try.underlying29 rfl (by assumption) rfl rfl ?_
    refine W.wants rfl rfl rfl rfl ?_
    refine W.eqlI rfl rfl rfl ?_
    refine W.pickT rfl rfl rfl ?_
    refine W.nil ?_
    refine At.thenCode ?_
    first | refine C.condD rfl (fun c27 => ?_) (fun c27 => ?_) | refine C.cond rfl (fun c27 => ?_) (fun c27 => ?_)
    · have hi2 : i < n := by omega
      have he0 : s.1 = 0 := by omega
      have hst := rdEnts_step (k := k) (n := n - i - 1) he0
      rw [show n - i - 1 + 1 = n - i by omega] at hst
      rw [hst] at hq1 hq2
      have hgw : w.heap.size ≤ g := Nat.le_of_eq hg.symm
      refine C.skip ?_
      refine At.thenCode ?_
      refine C.seq ?_
      refine C.block ?_
      refine C.region ?_
      refine W.move rfl rfl ?_
      refine W.move rfl rfl ?_
      refine W.call Try.call43 rfl (Cod.element_ok g q c b s _ hRl hlen) rfl ?_
      rintro v32 w32 ⟨rfl, hP32⟩
      have hr32 := hP32.rdr
      have hO32 : OwE (fun q => q < w.heap.size ∨ q = g) w32 w.heap.size 36 2 REnt v xs := OwE.chg rEnt hOl (hP32.chg.mono fun q h => Or.inr h) (fun q hq hA => by have := hOl.lt q hq; rcases hA with h | rfl; omega; exact hnl hq)
      have hX32 := hP32.old hgw hXl
      refine W.move rfl rfl ?_
      refine W.move rfl rfl ?_
      refine W.call Try.call36 rfl (Cod.rbytes_ok g q c b (elemS s).2 k _ hr32 hlen (by omega)) rfl ?_
      rintro v35 w35 ⟨ao35, c35, rfl, hN35, hP35⟩
      have hO35 : OwE (fun q => q < w.heap.size ∨ q = g) w35 w.heap.size 36 2 REnt v xs := OwE.chg rEnt hO32 (hP35.chg.mono fun q h => Or.inr h) (fun q hq hA => by have := hOl.lt q hq; rcases hA with h | rfl; omega; exact hnl hq)
      have hX35 := hP35.old hgw hX32
      obtain ⟨box, hbx⟩ : ∃ box, box = (takeS k (elemS s).2).1 := ⟨_, rfl⟩
      rw [← hbx] at hN35 hq1 ⊢
      refine W.buildS (fs := _) [(0, 1), (1, 1)] [u64V (elemS s).1, .slice ao35 box.length c35] [.int .u64 0, .slice none 0 0] Try.underlying36 (by kernel_rfl) (by kernel_rfl) rfl rfl rfl ?_
      refine W.litS [u64V (elemS s).1, .slice ao35 box.length c35] EEnt Try.underlying49 rfl rfl (by decide) rfl ?_
      intro g37 w37 hg37 hX37 _ hs37
      have hO37 := OwE.ext rEnt hO35 hX37
      have hl32 := hP32.chg.size
      have hl35 := hP35.chg.size
      have hl37 := hX37.size
      have hgl := hRl.lt
      have hR37 : REnt (fun q => (q < w.heap.size ∨ q = g) ∨ v.ownBlock = some q) w37 [u64V (elemS s).1, .slice ao35 box.length c35] ((elemS s).1, box) :=
        ⟨_, rfl, (hN35.ext hX37).byt (fun q hq => by rcases hq with (h | rfl) | h; have := hXl.size; omega; omega; have := (hOl.lt q h).2; omega), elemS_lt' s⟩
      refine W.appendE (ys := [((elemS s).1, box)]) rEnt EEnt Try.underlying49 rfl rfl hO37 (Els.lit hs37 hR37 (fun hq => by rcases hq with (h | h) | h; have := hX35.size; omega; omega; have := (hOl.lt _ h).2; omega)) (by simp; omega) (by simp; omega) (by have := hX35.size; omega) rfl ?_
      intro v38 w38 hO38 hg38 hl38
      have hC38 : Ext w w38 := (hX35.ext hX37).news (Chg.of_grown hg38) (fun q hq => Or.inr ((hO37.lt q hq.symm).1))
      have hr38 : Rdr w38 g q c b (takeS k (elemS s).2).2 := by
        have h1 := hP35.rdr.ext hX37
        obtain ⟨p', e', r1, r2⟩ := h1.out
        exact ⟨⟨p', e', r1.chg (Chg.of_grown hg38) (fun e => hnl e.symm), r2⟩, hb.ext hC38, h1.far⟩
      have hn38 : v38.ownBlock ≠ some g := by
        rcases hl38 with h | ⟨q, h, hq⟩
        · rw [h]; exact hnl
        · rw [h]; intro e; obtain rfl := Option.some.inj e; omega
      refine W.assign rfl rfl ?_
      refine W.nil ?_
      refine At.blockNormal ?_
      refine At.thenCode ?_
      refine C.region ?_
      refine W.move rfl rfl ?_
      first | refine W.addI rfl rfl (by omega) rfl ?_ | refine W.addW rfl rfl rfl ?_
      refine W.assign rfl rfl ?_
      refine W.nil ?_
      refine At.thenRound (i + 1, v38, xs ++ [((elemS s).1, box)], (takeS k (elemS s).2).2) (Sub.cons (rfl) (Sub.cons (rfl) (Sub.cons (rfl) (Sub.cons (rfl) (Sub.cons (rfl) (Sub.cons (look_eq rfl (iV (by omega))) (Sub.nil))))))) (show (i + 1) ≤ n ∧ Ext w _ ∧ Rdr _ g q c b ((takeS k (elemS s).2).2) ∧ OwE (fun q => q < w.heap.size ∨ q = g) _ w.heap.size 36 2 REnt (v38) (xs ++ [((elemS s).1, box)]) ∧ (v38).ownBlock ≠ some g ∧ (xs ++ [((elemS s).1, box)]).length = (i + 1) ∧ (rdEnts k n s0).1 = (xs ++ [((elemS s).1, box)]) ++ (rdEnts k (n - (i + 1)) ((takeS k (elemS s).2).2)).1 ∧ (rdEnts k n s0).2 = (rdEnts k (n - (i + 1)) ((takeS k (elemS s).2).2)).2 from ?_) (show n - (i + 1) < n - i from ?_)
      · refine ⟨by omega, hC38, hr38, hO38, hn38, by simp; omega, ?_, ?_⟩
        · rw [hq1, show n - (i + 1) = n - i - 1 by omega]; simp
        · rw [hq2, show n - (i + 1) = n - i - 1 by omega]
      · omega
    · -- known too
      have hstop : s.1 ≠ 0 ∨ n - i = 0 := by first | (left; omega) | (right; omega)
      rw [rdEnts_stop hstop] at hq1 hq2
      have hE1 : (entsS b).1 = xs := by rw [hES, hq1]; simp
      have hE2 : (entsS b).2 = s := by rw [hES, hq2]
      have hRE : entsRE b = overS s := by unfold entsRE; rw [hE2]
      refine C.exit ?_
      refine At.thenExit ?_
      refine At.thenExit ?_
      refine At.blockSelf ?_
      refine At.thenCode ?_
      refine C.seq ?_
      refine C.seq ?_
      refine C.region ?_
      refine W.move rfl rfl ?_
      refine W.call Try.call37 rfl (Cod.over_ok _ _ _ _ _ _ (by assumption) (by assumption)) rfl ?_
      rintro v40 w40 ⟨rfl, hC40⟩
      have hX40 : Ext w w40 := hXl.news hC40 fun q hq => Or.inr (by omega)
      have hO40 : OwE (fun q => q < w.heap.size ∨ q = g) w40 w.heap.size 36 2 REnt v xs := OwE.chg rEnt hOl (hC40.mono fun q h => Or.inr h) (fun q hq hA => by have := hOl.lt q hq; rcases hA with h | rfl; omega; exact hnl hq)
      refine W.assign rfl rfl ?_
      refine W.nil ?_
      refine At.thenCode ?_
      refine C.seq ?_
      refine C.region ?_
      refine W.move rfl rfl ?_
      refine W.neqI rfl rfl rfl ?_
      refine W.nil ?_
      refine At.thenCode ?_
      first | refine C.condD rfl (fun c42 => ?_) (fun c42 => ?_) | refine C.cond rfl (fun c42 => ?_) (fun c42 => ?_)
      · have hR : entsR b = [] := by unfold entsR; rw [if_neg (by rw [hRE]; omega)]
        refine C.seq ?_
        refine C.region ?_
        refine W.move rfl rfl ?_
        refine W.assign rfl rfl ?_
        refine W.assign rfl rfl ?_
        refine W.nil ?_
        refine At.thenCode ?_
        refine C.ret ?_
        refine At.thenRet ?_
        refine At.ret2 Try.results19 rfl rfl ?_
        first
        | exact ⟨none, 0, by rw [hR, hRE]; rfl, by rw [hR]; exact Els.nil _ _ _ _, hX40⟩
        | exact ⟨aR, cR, by rw [hR, h0]; rfl, by rw [hR]; exact hElR.new rEnt (fun q hq _ => Or.inl hq), hX40⟩
      · have h0 : entsRE b = 0 := by rw [hRE]; omega
        have hR : entsR b = xs := by unfold entsR; rw [if_pos h0, hE1]
        obtain ⟨aR, cR, rfl, hElR, _⟩ := OwE.form rEnt hO40 (fun q hq hA => by have := hOl.lt q hq; rcases hA with h | rfl; omega; exact hnl hq)
        refine C.skip ?_
        refine At.thenCode ?_
        refine C.seq ?_
        refine C.region ?_
        refine W.move rfl rfl ?_
        refine W.assign rfl rfl ?_
        refine W.assign rfl rfl ?_
        refine W.nil ?_
        refine At.thenCode ?_
        refine C.ret ?_
        refine At.ret2 Try.results19 rfl rfl ?_
        first
        | exact ⟨none, 0, by rw [hR, hRE]; rfl, by rw [hR]; exact Els.nil _ _ _ _, hX40⟩
        | exact ⟨aR, cR, by rw [hR, h0]; rfl, by rw [hR]; exact hElR.new rEnt (fun q hq _ => Or.inl hq), hX40⟩
  · refine W.skips rfl rfl rfl rfl rfl rfl ?_
    refine W.skips rfl rfl rfl rfl rfl rfl ?_
    refine W.skips rfl rfl rfl rfl rfl rfl ?_
    refine W.skips rfl rfl rfl rfl rfl rfl ?_
    refine W.skips rfl rfl rfl rfl rfl rfl ?_
    refine W.pickF rfl rfl rfl ?_
    refine W.nil ?_
    refine At.thenCode ?_
    refine C.condF rfl ?_
    -- known too
    have hstop : s.1 ≠ 0 ∨ n - i = 0 := by first | (left; omega) | (right; omega)
    rw [rdEnts_stop hstop] at hq1 hq2
    have hE1 : (entsS b).1 = xs := by rw [hES, hq1]; simp
    have hE2 : (entsS b).2 = s := by rw [hES, hq2]
    have hRE : entsRE b = overS s := by unfold entsRE; rw [hE2]
    refine C.exit ?_
    refine At.thenExit ?_
    refine At.thenExit ?_
    refine At.blockSelf ?_
    refine At.thenCode ?_
    refine C.seq ?_
    refine C.seq ?_
    refine C.region ?_
    refine W.move rfl rfl ?_
    refine W.call Try.call37 rfl (Cod.over_ok _ _ _ _ _ _ (by assumption) (by assumption)) rfl ?_
    rintro v40 w40 ⟨rfl, hC40⟩
    have hX40 : Ext w w40 := hXl.news hC40 fun q hq => Or.inr (by omega)
    have hO40 : OwE (fun q => q < w.heap.size ∨ q = g) w40 w.heap.size 36 2 REnt v xs := OwE.chg rEnt hOl (hC40.mono fun q h => Or.inr h) (fun q hq hA => by have := hOl.lt q hq; rcases hA with h | rfl; omega; exact hnl hq)
    refine W.assign rfl rfl ?_
    refine W.nil ?_
    refine At.thenCode ?_
    refine C.seq ?_
    refine C.region ?_
    refine W.move rfl rfl ?_
    refine W.neqI rfl rfl rfl ?_
    refine W.nil ?_
    refine At.thenCode ?_
    first | refine C.condD rfl (fun c42 => ?_) (fun c42 => ?_) | refine C.cond rfl (fun c42 => ?_) (fun c42 => ?_)
    · have hR : entsR b = [] := by unfold entsR; rw [if_neg (by rw [hRE]; omega)]
      refine C.seq ?_
      refine C.region ?_
      refine W.move rfl rfl ?_
      refine W.assign rfl rfl ?_
      refine W.assign rfl rfl ?_
      refine W.nil ?_
      refine At.thenCode ?_
      refine C.ret ?_
      refine At.thenRet ?_
      refine At.ret2 Try.results19 rfl rfl ?_
      first
      | exact ⟨none, 0, by rw [hR, hRE]; rfl, by rw [hR]; exact Els.nil _ _ _ _, hX40⟩
      | exact ⟨aR, cR, by rw [hR, h0]; rfl, by rw [hR]; exact hElR.new rEnt (fun q hq _ => Or.inl hq), hX40⟩
    · have h0 : entsRE b = 0 := by rw [hRE]; omega
      have hR : entsR b = xs := by unfold entsR; rw [if_pos h0, hE1]
      obtain ⟨aR, cR, rfl, hElR, _⟩ := OwE.form rEnt hO40 (fun q hq hA => by have := hOl.lt q hq; rcases hA with h | rfl; omega; exact hnl hq)
      refine C.skip ?_
      refine At.thenCode ?_
      refine C.seq ?_
      refine C.region ?_
      refine W.move rfl rfl ?_
      refine W.assign rfl rfl ?_
      refine W.assign rfl rfl ?_
      refine W.nil ?_
      refine At.thenCode ?_
      refine C.ret ?_
      refine At.ret2 Try.results19 rfl rfl ?_
      first
      | exact ⟨none, 0, by rw [hR, hRE]; rfl, by rw [hR]; exact Els.nil _ _ _ _, hX40⟩
      | exact ⟨aR, cR, by rw [hR, h0]; rfl, by rw [hR]; exact hElR.new rEnt (fun q hq _ => Or.inl hq), hX40⟩
end Go.Proofs.Ytpjdkobmcjgcjaa.Cod
