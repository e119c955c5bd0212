/- The reference's functions that read: notes, entries. -/
import Derived.Test.YtkjmllohbohliaaCodX
namespace Go.Proofs.Ytkjmllohbohliaa.Cod
open Go Go.RowKit Go.Proofs.Ytkjmllohbohliaa.KW Go.Proofs.Ytkjmllohbohliaa.Words Go.Proofs.Ytkjmllohbohliaa.Grp
set_option linter.unusedVariables false
set_option linter.unusedSimpArgs false
set_option maxRecDepth 100000

theorem RReadNote_ok (q : Option Addr) (c : Nat) (b : List UInt8) (w : World) (hb : Bs w q c b) (hlen : b.length ≤ 1099511627776) :
    Ct Try.prog 60 #[.slice q b.length c] w (fun v w' => v = .tuple #[.agg (noteC (noteR b)).toArray, .int .i64 (noteRE b : Int)] ∧ Ext w w') := by
  refine Ct.enter [(0, .slice q b.length c)] Try.func60 rfl rfl rfl rfl ?_
  have hnl := noteC_length (noteS_ok b)
  obtain ⟨s2, hs2⟩ : ∃ s, s = (numS (numS (0, b)).2).2 := ⟨_, rfl⟩
  have hkl := takeS_len 32 s2
  have hk32 := keyS_len s2
  obtain ⟨xs, hxs⟩ : ∃ xs, xs = (takeS 32 s2).1 := ⟨_, rfl⟩
  have hks : keyS s2 = (xs ++ List.replicate (32 - xs.length) 0, (takeS 32 s2).2) := by rw [hxs]; rfl
  rw [← hxs] at hkl
  have hNS : noteS b = (⟨(numS (0, b)).1, (numS (numS (0, b)).2).1, (keyS s2).1⟩, (keyS s2).2) := by rw [hs2]; rfl
  rw [hks] at hk32 hNS
  refine C.seq ?_
  refine C.region ?_
  refine W.alloc (z := .agg zeroNoteC.toArray) zeroNoteC (by kernel_rfl) rfl rfl ?_
  intro g2 w2 hg2 hX2 hB2
  refine W.assign rfl rfl ?_
  refine W.nil ?_
  refine At.thenCode ?_
  refine C.seq ?_
  refine C.region ?_
  refine W.move rfl rfl ?_
  refine W.buildS (fs := _) [(0, 1), (1, 1), (2, 1)] (RdrC q c b) [.slice none 0 0, .int .i64 0, .int .i64 0] Try.underlying105 (by kernel_rfl) (by kernel_rfl) rfl rfl rfl ?_
  refine W.box (RdrC q c b) rfl rfl rfl ?_
  intro g9 w9 hg9 hX9 hB9
  have hX9a := hX2.ext hX9
  have hr9 : Rdr w9 g9 q c b (0, b) := Rdr.mk' hB9 (hb.ext hX9a) (far_new hb (by have := hX2.size; omega))
  have hB2a := hB2.ext hX9
  have hl2 := hB2.lt
  have hl9 := hB9.lt
  have hgw : w.heap.size ≤ g9 := by have := hX2.size; omega
  refine W.assign rfl rfl ?_
  refine W.nil ?_
  refine At.thenCode ?_
  refine C.seq ?_
  refine C.region ?_
  refine W.alloc (z := .agg zeroNoteC.toArray) zeroNoteC (by kernel_rfl) rfl rfl ?_
  intro g5 w5 hg5 hX5 hB5
  have hr5 := hr9.ext hX5
  have hB2b := hB2a.ext hX5
  have hX5a := hX9a.ext hX5
  refine W.nil ?_
  refine At.thenCode ?_
  refine C.seq ?_
  refine C.region ?_
  refine W.move rfl rfl ?_
  refine W.call Try.call81 rfl (Cod.Rnumber_ok _ _ _ _ _ _ (by assumption) (by assumption)) rfl ?_
  rintro v13 w13 ⟨rfl, hP13⟩
  have hB13 := hB5.chg hP13.chg (by omega)
  have hB2c := hB2b.chg hP13.chg (by omega)
  have hX13 := hP13.old hgw hX5a
  refine W.fieldB (off := 0) (size := 1) (t := 32) (Fld.of (by kernel_rfl)) rfl rfl rfl ?_
  refine W.store1 rfl rfl rfl hB13 (by decide) (by kernel_rfl) ?_
  intro w14 hc14 hB14
  have hB14 : Bk w14 g5 ([u64V (numS (0, b)).1, u64V 0] ++ Z32) := hB14
  have hX14 : Ext w w14 := hX13.news hc14 fun k hk => Or.inr (by have := hX9a.size; omega)
  have hr14 : Rdr w14 g9 q c b (numS (0, b)).2 := by
    obtain ⟨p, e, r1, r2⟩ := hP13.rdr.out
    exact ⟨⟨p, e, r1.chg hc14 (by omega), r2⟩, hb.ext hX14, hP13.rdr.far⟩
  have hB2d := hB2c.chg hc14 (by omega)
  refine W.nil ?_
  refine At.thenCode ?_
  refine C.seq ?_
  refine C.region ?_
  refine W.move rfl rfl ?_
  refine W.call Try.call81 rfl (Cod.Rnumber_ok _ _ _ _ _ _ (by assumption) (by assumption)) rfl ?_
  rintro v16 w16 ⟨rfl, hP16⟩
  have hB16 := hB14.chg hP16.chg (by omega)
  have hB2e := hB2d.chg hP16.chg (by omega)
  have hX16 := hP16.old hgw hX14
  refine W.fieldB (off := 1) (size := 1) (t := 32) (Fld.of (by kernel_rfl)) rfl rfl rfl ?_
  refine W.store1 rfl rfl rfl hB16 (by simp) (by kernel_rfl) ?_
  intro w17 hc17 hB17
  have hB17 : Bk w17 g5 ([u64V (numS (0, b)).1, u64V (numS (numS (0, b)).2).1] ++ Z32) := hB17
  have hX17 : Ext w w17 := hX16.news hc17 fun k hk => Or.inr (by have := hX9a.size; omega)
  have hr17 : Rdr w17 g9 q c b s2 := by
    obtain ⟨p, e, r1, r2⟩ := hP16.rdr.out
    rw [hs2]
    exact ⟨⟨p, e, r1.chg hc17 (by omega), r2⟩, hb.ext hX17, hP16.rdr.far⟩
  have hB2f := hB2e.chg hc17 (by omega)
  refine W.nil ?_
  refine At.thenCode ?_
  refine C.seq ?_
  refine C.region ?_
  refine W.move rfl rfl ?_
  refine W.call Try.call82 rfl (Cod.Rtake_ok g9 q c b s2 32 _ hr17 hlen (by decide)) rfl ?_
  rintro v19 w19 ⟨ao19, c19, rfl, hN19, hP19⟩
  rw [← hxs] at hN19 ⊢
  have hB19 := hB17.chg hP19.chg (by omega)
  have hB2g := hB2f.chg hP19.chg (by omega)
  have hX19 := hP19.old hgw hX17
  have hfz : Z32 = (fillB (xs ++ List.replicate (32 - xs.length) 0) 32 0).map byteV := by rw [fillB_zero]; rfl
  rw [hfz] at hB19
  have hl17 := hB17.lt
  refine W.assign rfl rfl ?_
  refine W.nil ?_
  refine At.thenCode ?_
  refine C.seq ?_
  refine C.seq ?_
  refine C.region ?_
  refine W.assign rfl rfl ?_
  refine W.nil ?_
  refine At.thenCode ?_
  refine C.block ?_
  refine C.loop (X := Nat) (fun x_ => [(0, .slice q b.length c), (2, .pointer (some ⟨g2, 0, none⟩)), (4, .pointer (some ⟨g9, 0, none⟩)), (5, .pointer (some ⟨g5, 0, none⟩)), (6, .slice ao19 xs.length c19), (7, .int .i64 (x_ : Int))]) (fun x_ wl => x_ ≤ xs.length ∧ Chg (fun k => k = g5) w19 wl ∧ Bk wl g5 ([u64V (numS (0, b)).1, u64V (numS (numS (0, b)).2).1] ++ (fillB (xs ++ List.replicate (32 - xs.length) 0) 32 x_).map byteV)) (fun x_ => xs.length - x_) (0) (Sub.cons (rfl) (Sub.cons (rfl) (Sub.cons (rfl) (Sub.cons (rfl) (Sub.cons (rfl) (Sub.cons (rfl) (Sub.nil))))))) ?start1 ?_
  case start1 =>
    show (0) ≤ xs.length ∧ Chg (fun k => k = g5) w19 _ ∧ Bk _ g5 ([u64V (numS (0, b)).1, u64V (numS (numS (0, b)).2).1] ++ (fillB (xs ++ List.replicate (32 - xs.length) 0) 32 (0)).map byteV)
    exact ⟨by omega, Chg.refl _ _, hB19⟩
  rintro i wl hI_
  replace hI_ : i ≤ xs.length ∧ Chg (fun k => k = g5) w19 wl ∧ Bk wl g5 ([u64V (numS (0, b)).1, u64V (numS (numS (0, b)).2).1] ++ (fillB (xs ++ List.replicate (32 - xs.length) 0) 32 i).map byteV) := hI_
  obtain ⟨hi, hCl, hBl⟩ := hI_
  refine C.weaken (l' := [(0, .slice q b.length c), (2, .pointer (some ⟨g2, 0, none⟩)), (4, .pointer (some ⟨g9, 0, none⟩)), (5, .pointer (some ⟨g5, 0, none⟩)), (6, .slice ao19 xs.length c19), (7, .int .i64 (i : Int))]) (Sub.cons (rfl) (Sub.cons (rfl) (Sub.cons (rfl) (Sub.cons (rfl) (Sub.cons (rfl) (Sub.cons (rfl) (Sub.nil))))))) ?_
  refine C.seq ?_
  refine C.seq ?_
  refine C.region ?_
  refine W.move rfl rfl ?_
  refine W.move rfl rfl ?_
  refine W.lenS rfl Try.underlying24 rfl ?_
  refine W.lssI rfl rfl rfl ?_
  refine W.nil ?_
  refine At.thenCode ?_
  first | refine C.condD rfl (fun c23 => ?_) (fun c23 => ?_) | refine C.cond rfl (fun c23 => ?_) (fun c23 => ?_)
  · have hlt : i < xs.length := by omega
    have hNl : Bs wl ao19 c19 xs := hN19.1.chg hCl (fun ad ea hn hk => by have := hN19.2 ad ea (by simpa using hn); omega)
    refine C.skip ?_
    refine At.thenCode ?_
    refine C.seq ?_
    refine C.block ?_
    refine C.region ?_
    refine W.move rfl rfl ?_
    refine W.move rfl rfl ?_
    refine W.move rfl rfl ?_
    refine W.idx (v := byteV xs[i]) E8 Try.underlying24 Try.underlying5 rfl rfl hNl rfl (by omega) (by rw [Int.toNat_natCast]; exact get_byte hlt) rfl rfl ?_
    intro p29
    -- read with the address
    refine W.fieldB (off := 2) (size := 32) (t := 22) (Fld.of (by kernel_rfl)) rfl rfl rfl ?_
    refine W.indexA i X8 Try.underlying22 rfl rfl rfl (by omega) rfl ?_
    refine W.store1 rfl rfl rfl hBl (by rw [List.length_append, List.length_map, fillB_length hk32 (by omega)]; simp; omega) (by kernel_rfl) ?_
    intro w8 hc8 hB8
    have hB8' := key_fill hkl hlt [u64V (numS (0, b)).1, u64V (numS (numS (0, b)).2).1]
    have e2 : ([u64V (numS (0, b)).1, u64V (numS (numS (0, b)).2).1] : List Value).length + i = 0 + 2 + i * 1 := by simp
    rw [e2] at hB8'
    rw [hB8'] at hB8
    refine W.nil ?_
    refine At.blockNormal ?_
    refine At.thenCode ?_
    refine C.region ?_
    refine W.move rfl rfl ?_
    first | refine W.addI rfl rfl (by omega) rfl ?_ | refine W.addW rfl rfl rfl ?_
    refine W.assign rfl rfl ?_
    refine W.nil ?_
    refine At.thenRound (i + 1) (Sub.cons (rfl) (Sub.cons (rfl) (Sub.cons (rfl) (Sub.cons (rfl) (Sub.cons (rfl) (Sub.cons (look_eq rfl (iV (by omega))) (Sub.nil))))))) (show (i + 1) ≤ xs.length ∧ Chg (fun k => k = g5) w19 _ ∧ Bk _ g5 ([u64V (numS (0, b)).1, u64V (numS (numS (0, b)).2).1] ++ (fillB (xs ++ List.replicate (32 - xs.length) 0) 32 (i + 1)).map byteV) from ?_) (show xs.length - (i + 1) < xs.length - i from ?_)
    · exact ⟨by omega, hCl.trans hc8, hB8⟩
    · omega
  · obtain rfl : i = xs.length := by omega
    rw [key_full hkl] at hBl
    have hBl : Bk wl g5 (noteC (noteS b).1) := by rw [hNS]; exact hBl
    have hB2h := hB2g.chg hCl (by omega)
    have hXl : Ext w wl := hX19.news hCl fun k hk => Or.inr (by have := hX9a.size; omega)
    have hrl : Rdr wl g9 q c b (takeS 32 s2).2 := by
      obtain ⟨p, e, r1, r2⟩ := hP19.rdr.out
      exact ⟨⟨p, e, r1.chg hCl (by omega), r2⟩, hb.ext hXl, hP19.rdr.far⟩
    refine C.exit ?_
    refine At.thenExit ?_
    refine At.thenExit ?_
    refine At.blockSelf ?_
    refine At.thenCode ?_
    refine C.seq ?_
    refine C.region ?_
    refine W.move rfl rfl ?_
    refine W.call Try.call83 rfl (Cod.Rend_ok _ _ _ _ _ _ (by assumption)) rfl ?_
    rintro v34 w34 ⟨rfl, hC34⟩
    have hB34 := hBl.chg hC34 (by omega)
    have hB2i := hB2h.chg hC34 (by omega)
    have hX34 : Ext w w34 := hXl.news hC34 fun k hk => Or.inr (by omega)
    have hRE : noteRE b = overS (takeS 32 s2).2 := by unfold noteRE; rw [hNS]
    refine W.assign rfl rfl ?_
    refine W.nil ?_
    refine At.thenCode ?_
    refine C.seq ?_
    refine C.seq ?_
    refine C.region ?_
    refine W.move rfl rfl ?_
    refine W.neqI rfl rfl rfl ?_
    refine W.nil ?_
    refine At.thenCode ?_
    first | refine C.condD rfl (fun c36 => ?_) (fun c36 => ?_) | refine C.cond rfl (fun c36 => ?_) (fun c36 => ?_)
    · refine C.seq ?_
      refine C.region ?_
      refine W.buildS (fs := _) [(0, 1), (1, 1), (2, 32)] zeroNoteC zeroNoteC Try.underlying34 (by kernel_rfl) (by kernel_rfl) rfl rfl rfl ?_
      refine W.move rfl rfl ?_
      refine W.storeA zeroNoteC rfl rfl hB2i rfl (by kernel_rfl) (by rw [← zeroNoteC_eq]; exact noteC_one _) ?_
      intro w24 hc24 hB24
      refine W.assign rfl rfl ?_
      refine W.nil ?_
      refine At.thenCode ?_
      refine C.ret ?_
      refine At.thenRet ?_
      -- RESULT IN A CELL
      refine At.retCT Try.results60 rfl rfl (hB24.cells (o := 0)) Try.underlying34 rfl (by kernel_rfl) ?_
      rw [List.drop_zero]
      have hR : noteR b = zeroNote := by unfold noteR; rw [if_neg (by rw [hRE]; omega)]
      exact ⟨by rw [hR, hRE]; rfl, hX34.news hc24 fun k hk => Or.inr (by omega)⟩
    · refine C.skip ?_
      refine At.thenCode ?_
      refine C.seq ?_
      refine C.region ?_
      refine W.loadA rfl (hB34.cells (o := 0)) Try.underlying34 rfl (by rw [List.drop_zero, hnl]; kernel_rfl) rfl ?_
      rw [List.drop_zero]
      refine W.storeA (noteC (noteS b).1) rfl rfl hB2i (by rw [hnl]; rfl) (by rw [hnl]; kernel_rfl) (noteC_one _) ?_
      intro w26 hc26 hB26
      refine W.assign rfl rfl ?_
      refine W.nil ?_
      refine At.thenCode ?_
      refine C.ret ?_
      -- RESULT IN A CELL
      refine At.retCT Try.results60 rfl rfl (hB26.cells (o := 0)) Try.underlying34 rfl (by rw [List.drop_zero, hnl]; kernel_rfl) ?_
      rw [List.drop_zero]
      have h0 : noteRE b = 0 := by rw [hRE]; omega
      have hR : noteR b = (noteS b).1 := by unfold noteR; rw [if_pos h0]
      exact ⟨by rw [hR, h0]; rfl, hX34.news hc26 fun k hk => Or.inr (by omega)⟩
end Go.Proofs.Ytkjmllohbohliaa.Cod
