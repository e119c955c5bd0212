/- The reference's functions that read: submissions. -/
import Derived.Test.YtpjdkobmcjgcjaaCodY
namespace Go.Proofs.Ytpjdkobmcjgcjaa.Cod
open Go Go.RowKit Go.Proofs.Ytpjdkobmcjgcjaa.KW Go.Proofs.Ytpjdkobmcjgcjaa.Words Go.Proofs.Ytpjdkobmcjgcjaa.Grp
set_option linter.unusedVariables false
set_option linter.unusedSimpArgs false
set_option maxRecDepth 100000
/-- A reader, and what else a call writes into, behind a store into one of these. -/
theorem Rdr.other {w w' : World} {g g' : Nat} {q : Option Addr} {c : Nat} {b : List UInt8} {s : St} (h : Rdr w g q c b s) (hc : Chg (fun k => k = g') w w') (hn : g ≠ g') (hb : Bs w' q c b) : Rdr w' g q c b s := by
  obtain ⟨p, e, r1, r2⟩ := h.out
  exact ⟨⟨p, e, r1.chg hc hn, r2⟩, hb, h.far⟩
theorem RReadSubmission_ok (q : Option Addr) (c : Nat) (b : List UInt8) (w : World) (hb : Bs w q c b) (hlen : b.length ≤ 1099511627776) :
    Ct Try.prog 21 #[.slice q b.length c] w (fun v w' => ∃ vb, v = .tuple #[.agg (subC (subR b) vb).toArray, .int .i64 (subRE b : Int)] ∧ RByt (fun k => k < w.heap.size) w' [vb] (subR b).box ∧ Ext w w') := by
  refine Ct.enter [(0, .slice q b.length c)] Try.func21 rfl rfl rfl rfl ?_
  have q1 := sub1_eq b
  have q2 := sub2_eq b
  have q3 := sub3_eq b
  have q4 := sub4_eq b
  have q5 := sub5_eq b
  have q6 := sub6_eq b
  have q7 := sub7_eq b
  have q8 := sub8_eq b
  have hS : subS b = ⟨(sub1 b).1, (sub2 b).1, (sub4 b).1, (sub5 b).1, (sub6 b).1, (sub7 b).1, (sub8 b).1⟩ := rfl
  have hRE : subRE b = overS (sub8 b).2 := rfl
  generalize sub1 b = p1 at *
  generalize sub2 b = p2 at *
  generalize sub3 b = p3 at *
  generalize sub4 b = p4 at *
  generalize sub5 b = p5 at *
  generalize sub6 b = p6 at *
  generalize sub7 b = p7 at *
  generalize sub8 b = p8 at *
  have hu : p1.1.length = 32 := by rw [q1]; exact keyS_len _
  have hn3 : p3.1 ≤ 1048576 := by rw [q3]; exact intS_le _ _
  refine C.seq ?_
  refine C.region ?_
  refine W.alloc (z := .agg zeroSubC.toArray) zeroSubC (by kernel_rfl) rfl rfl ?_
  intro g2 w2 hg2 hX2 hB2
  refine W.assign rfl rfl ?_
  refine W.nil ?_
  refine At.thenCode ?_
  refine C.seq ?_
  refine C.region ?_
  refine W.move rfl rfl ?_
  refine W.buildS (fs := _) [(0, 1), (1, 1), (2, 1)] (RdrC q c b) [.slice none 0 0, .int .i64 0, .int .i64 0] Try.underlying98 (by kernel_rfl) (by kernel_rfl) rfl rfl rfl ?_
  refine W.box (RdrC q c b) rfl rfl rfl ?_
  intro g9 w9 hg9 hX9 hB9
  have hX9a := hX2.ext hX9
  have hr9 : Rdr w9 g9 q c b (0, b) := Rdr.mk' hB9 (hb.ext hX9a) (far_new hb (by have := hX2.size; omega))
  have hB2a := hB2.ext hX9
  have hl2 := hB2.lt
  have hl9 := hB9.lt
  have hgw : w.heap.size ≤ g9 := by have := hX2.size; omega
  have hws := hX9a.size
  refine W.assign rfl rfl ?_
  refine W.nil ?_
  refine At.thenCode ?_
  refine C.seq ?_
  refine C.region ?_
  refine W.alloc (z := .agg zeroSubC.toArray) zeroSubC (by kernel_rfl) rfl rfl ?_
  intro g5 w5 hg5 hX5 hB5
  have hr5 := hr9.ext hX5
  have hX5a := hX9a.ext hX5
  have hB2b := hB2a.ext hX5
  have hl5 := hB5.lt
  refine W.nil ?_
  refine At.thenCode ?_
  refine C.seq ?_
  refine C.region ?_
  refine W.move rfl rfl ?_
  refine W.call Try.call53 rfl (Cod.Rkey_ok g9 q c b (0, b) _ hr5 hlen) rfl ?_
  rintro v12 w12 ⟨rfl, hP12⟩
  rw [← q1] at hP12 ⊢
  have hB12 := hB5.chg hP12.chg (by omega)
  have hB2c := hB2b.chg hP12.chg (by omega)
  have hX12 := hP12.old hgw hX5a
  refine W.fieldB (off := 0) (size := 32) (t := 34) (Fld.of (by kernel_rfl)) rfl rfl rfl ?_
  refine W.storeB (p1.1.map byteV) rfl rfl rfl hB12 (by rw [List.length_map, hu]; decide) (by rw [List.length_map, hu]; kernel_rfl) (bytes_oneCell _) ?_
  intro w13 hc13 hB13
  have hB13 : Bk w13 g5 (subL p1.1 subZ) := by
    have := subL_key hu subZ
    unfold zeroSubC at hB13
    exact this ▸ hB13
  have hX13 : Ext w w13 := hX12.news hc13 fun k hk => Or.inr (by omega)
  have hr13 := hP12.rdr.other hc13 (by omega) (hb.ext hX13)
  have hB2d := hB2c.chg hc13 (by omega)
  refine W.nil ?_
  refine At.thenCode ?_
  refine C.seq ?_
  refine C.region ?_
  refine W.move rfl rfl ?_
  refine W.call Try.call50 rfl (Cod.Relement_ok g9 q c b p1.2 _ hr13 hlen) rfl ?_
  rintro v15 w15 ⟨rfl, hP15⟩
  rw [← q2] at hP15 ⊢
  have hB15 := hB13.chg hP15.chg (by omega)
  have hB2e := hB2d.chg hP15.chg (by omega)
  have hX15 := hP15.old hgw hX13
  refine W.fieldB (off := 32) (size := 2) (t := 36) (Fld.of (by kernel_rfl)) rfl rfl rfl ?_
  refine W.fieldB (off := 0) (size := 1) (t := 22) (Fld.of (by kernel_rfl)) rfl rfl rfl ?_
  refine W.store1 rfl rfl rfl hB15 (by rw [subL_length hu]; first | decide | simp) (by kernel_rfl) ?_
  intro w16 hc16 hB16
  have hB16 : Bk w16 g5 (subL p1.1 [u64V p2.1, .slice none 0 0, u64V 0, u64V 0, u64V 0, u64V 0]) := by
    have := subL_set hu subZ 0 (u64V p2.1)
    exact this ▸ hB16
  have hX16 : Ext w w16 := hX15.news hc16 fun k hk => Or.inr (by omega)
  have hr16 := hP15.rdr.other hc16 (by omega) (hb.ext hX16)
  have hB2f := hB2e.chg hc16 (by omega)
  refine W.nil ?_
  refine At.thenCode ?_
  refine C.seq ?_
  refine C.region ?_
  refine W.move rfl rfl ?_
  refine W.call Try.call48 rfl (Cod.Rmost_ok g9 q c b p2.2 1048576 _ hr16 hlen (by decide)) rfl ?_
  rintro v19 w19 ⟨rfl, hP19⟩
  rw [← q3] at hP19 ⊢
  have hr19 := hP19.rdr
  have hX19 := hP19.old hgw hX16
  have hB19 := hB16.chg hP19.chg (by omega)
  have hB2g := hB2f.chg hP19.chg (by omega)
  refine W.assign rfl rfl ?_
  refine W.nil ?_
  refine At.thenCode ?_
  refine C.seq ?_
  refine C.region ?_
  refine W.move rfl rfl ?_
  refine W.move rfl rfl ?_
  refine W.call Try.call51 rfl (Cod.Rtake_ok g9 q c b p3.2 p3.1 _ hr19 hlen (by omega)) rfl ?_
  rintro v22 w22 ⟨ao, cb, rfl, hN22, hP22⟩
  rw [← q4] at hP22 hN22 ⊢
  have hX22 := hP22.old hgw hX19
  have hB22 := hB19.chg hP22.chg (by omega)
  have hB2h := hB2g.chg hP22.chg (by omega)
  have hl19 : g5 < w19.heap.size := hB19.lt
  have hY22 : RByt (fun k => k < w.heap.size ∨ k = g9 ∨ k = g5 ∨ k = g2) w22 [.slice ao p4.1.length cb] p4.1 := hN22.byt (fun k hk => by have := hX19.size; omega)
  refine W.fieldB (off := 32) (size := 2) (t := 36) (Fld.of (by kernel_rfl)) rfl rfl rfl ?_
  refine W.fieldB (off := 1) (size := 1) (t := 27) (Fld.of (by kernel_rfl)) rfl rfl rfl ?_
  refine W.store1 rfl rfl rfl hB22 (by rw [subL_length hu]; first | decide | simp) (by kernel_rfl) ?_
  intro w23 hc23 hB23
  have hB23 : Bk w23 g5 (subL p1.1 [u64V p2.1, .slice ao p4.1.length cb, u64V 0, u64V 0, u64V 0, u64V 0]) := by
    have := subL_set hu [u64V p2.1, .slice none 0 0, u64V 0, u64V 0, u64V 0, u64V 0] 1 (.slice ao p4.1.length cb)
    exact this ▸ hB23
  have hX23 : Ext w w23 := hX22.news hc23 fun k hk => Or.inr (by omega)
  have hr23 := hP22.rdr.other hc23 (by omega) (hb.ext hX23)
  have hB2i := hB2h.chg hc23 (by omega)
  have hY23 := rByt.chg hY22 (hc23.mono fun k hk => by right; right; left; exact hk)
  refine W.nil ?_
  refine At.thenCode ?_
  refine C.seq ?_
  refine C.region ?_
  refine W.move rfl rfl ?_
  refine W.call Try.call54 rfl (Cod.Rnumber_ok g9 q c b p4.2 _ hr23 hlen) rfl ?_
  rintro v26 w26 ⟨rfl, hP26⟩
  rw [← q5] at hP26 ⊢
  have hX26 := hP26.old hgw hX23
  have hB26 := hB23.chg hP26.chg (by omega)
  have hB2j := hB2i.chg hP26.chg (by omega)
  have hY26 := rByt.chg hY23 (hP26.chg.mono fun k hk => Or.inr (Or.inl hk))
  refine W.fieldB (off := 34) (size := 2) (t := 38) (Fld.of (by kernel_rfl)) rfl rfl rfl ?_
  refine W.fieldB (off := 0) (size := 1) (t := 22) (Fld.of (by kernel_rfl)) rfl rfl rfl ?_
  refine W.store1 rfl rfl rfl hB26 (by rw [subL_length hu]; first | decide | simp) (by kernel_rfl) ?_
  intro w27 hc27 hB27
  have hB27 : Bk w27 g5 (subL p1.1 [u64V p2.1, .slice ao p4.1.length cb, u64V p5.1, u64V 0, u64V 0, u64V 0]) := by
    have := subL_set hu [u64V p2.1, .slice ao p4.1.length cb, u64V 0, u64V 0, u64V 0, u64V 0] 2 (u64V p5.1)
    exact this ▸ hB27
  have hX27 : Ext w w27 := hX26.news hc27 fun k hk => Or.inr (by omega)
  have hr27 := hP26.rdr.other hc27 (by omega) (hb.ext hX27)
  have hB2k := hB2j.chg hc27 (by omega)
  have hY27 := rByt.chg hY26 (hc27.mono fun k hk => by right; right; left; exact hk)
  refine W.nil ?_
  refine At.thenCode ?_
  refine C.seq ?_
  refine C.region ?_
  refine W.move rfl rfl ?_
  refine W.call Try.call54 rfl (Cod.Rnumber_ok g9 q c b p5.2 _ hr27 hlen) rfl ?_
  rintro v30 w30 ⟨rfl, hP30⟩
  rw [← q6] at hP30 ⊢
  have hX30 := hP30.old hgw hX27
  have hB30 := hB27.chg hP30.chg (by omega)
  have hB2l := hB2k.chg hP30.chg (by omega)
  have hY30 := rByt.chg hY27 (hP30.chg.mono fun k hk => Or.inr (Or.inl hk))
  refine W.fieldB (off := 34) (size := 2) (t := 38) (Fld.of (by kernel_rfl)) rfl rfl rfl ?_
  refine W.fieldB (off := 1) (size := 1) (t := 22) (Fld.of (by kernel_rfl)) rfl rfl rfl ?_
  refine W.store1 rfl rfl rfl hB30 (by rw [subL_length hu]; first | decide | simp) (by kernel_rfl) ?_
  intro w31 hc31 hB31
  have hB31 : Bk w31 g5 (subL p1.1 [u64V p2.1, .slice ao p4.1.length cb, u64V p5.1, u64V p6.1, u64V 0, u64V 0]) := by
    have := subL_set hu [u64V p2.1, .slice ao p4.1.length cb, u64V p5.1, u64V 0, u64V 0, u64V 0] 3 (u64V p6.1)
    exact this ▸ hB31
  have hX31 : Ext w w31 := hX30.news hc31 fun k hk => Or.inr (by omega)
  have hr31 := hP30.rdr.other hc31 (by omega) (hb.ext hX31)
  have hB2m := hB2l.chg hc31 (by omega)
  have hY31 := rByt.chg hY30 (hc31.mono fun k hk => by right; right; left; exact hk)
  refine W.nil ?_
  refine At.thenCode ?_
  refine C.seq ?_
  refine C.region ?_
  refine W.move rfl rfl ?_
  refine W.call Try.call54 rfl (Cod.Rnumber_ok g9 q c b p6.2 _ hr31 hlen) rfl ?_
  rintro v34 w34 ⟨rfl, hP34⟩
  rw [← q7] at hP34 ⊢
  have hX34 := hP34.old hgw hX31
  have hB34 := hB31.chg hP34.chg (by omega)
  have hB2n := hB2m.chg hP34.chg (by omega)
  have hY34 := rByt.chg hY31 (hP34.chg.mono fun k hk => Or.inr (Or.inl hk))
  refine W.fieldB (off := 36) (size := 2) (t := 38) (Fld.of (by kernel_rfl)) rfl rfl rfl ?_
  refine W.fieldB (off := 0) (size := 1) (t := 22) (Fld.of (by kernel_rfl)) rfl rfl rfl ?_
  refine W.store1 rfl rfl rfl hB34 (by rw [subL_length hu]; first | decide | simp) (by kernel_rfl) ?_
  intro w35 hc35 hB35
  have hB35 : Bk w35 g5 (subL p1.1 [u64V p2.1, .slice ao p4.1.length cb, u64V p5.1, u64V p6.1, u64V p7.1, u64V 0]) := by
    have := subL_set hu [u64V p2.1, .slice ao p4.1.length cb, u64V p5.1, u64V p6.1, u64V 0, u64V 0] 4 (u64V p7.1)
    exact this ▸ hB35
  have hX35 : Ext w w35 := hX34.news hc35 fun k hk => Or.inr (by omega)
  have hr35 := hP34.rdr.other hc35 (by omega) (hb.ext hX35)
  have hB2o := hB2n.chg hc35 (by omega)
  have hY35 := rByt.chg hY34 (hc35.mono fun k hk => by right; right; left; exact hk)
  refine W.nil ?_
  refine At.thenCode ?_
  refine C.seq ?_
  refine C.region ?_
  refine W.move rfl rfl ?_
  refine W.call Try.call54 rfl (Cod.Rnumber_ok g9 q c b p7.2 _ hr35 hlen) rfl ?_
  rintro v38 w38 ⟨rfl, hP38⟩
  rw [← q8] at hP38 ⊢
  have hX38 := hP38.old hgw hX35
  have hB38 := hB35.chg hP38.chg (by omega)
  have hB2p := hB2o.chg hP38.chg (by omega)
  have hY38 := rByt.chg hY35 (hP38.chg.mono fun k hk => Or.inr (Or.inl hk))
  refine W.fieldB (off := 36) (size := 2) (t := 38) (Fld.of (by kernel_rfl)) rfl rfl rfl ?_
  refine W.fieldB (off := 1) (size := 1) (t := 22) (Fld.of (by kernel_rfl)) rfl rfl rfl ?_
  refine W.store1 rfl rfl rfl hB38 (by rw [subL_length hu]; first | decide | simp) (by kernel_rfl) ?_
  intro w39 hc39 hB39
  have hB39 : Bk w39 g5 (subL p1.1 [u64V p2.1, .slice ao p4.1.length cb, u64V p5.1, u64V p6.1, u64V p7.1, u64V p8.1]) := by
    have := subL_set hu [u64V p2.1, .slice ao p4.1.length cb, u64V p5.1, u64V p6.1, u64V p7.1, u64V 0] 5 (u64V p8.1)
    exact this ▸ hB39
  have hX39 : Ext w w39 := hX38.news hc39 fun k hk => Or.inr (by omega)
  have hr39 := hP38.rdr.other hc39 (by omega) (hb.ext hX39)
  have hB2q := hB2p.chg hc39 (by omega)
  have hY39 := rByt.chg hY38 (hc39.mono fun k hk => by right; right; left; exact hk)
  refine W.nil ?_
  refine At.thenCode ?_
  refine C.seq ?_
  refine C.region ?_
  refine W.move rfl rfl ?_
  refine W.call Try.call52 rfl (Cod.Rend_ok g9 q c b p8.2 _ hr39) rfl ?_
  rintro v42 w42 ⟨rfl, hC42⟩
  have hB42 := hB39.chg hC42 (by omega)
  have hB2r := hB2q.chg hC42 (by omega)
  have hX42 : Ext w w42 := hX39.news hC42 fun k hk => Or.inr (by omega)
  have hY42 := rByt.chg hY39 (hC42.mono fun k hk => Or.inr (Or.inl hk))
  rw [← hRE]
  refine W.assign rfl rfl ?_
  refine W.nil ?_
  refine At.thenCode ?_
  refine C.seq ?_
  refine C.seq ?_
  refine C.region ?_
  refine W.move rfl rfl ?_
  refine W.neqI rfl rfl rfl ?_
  refine W.nil ?_
  refine At.thenCode ?_
  first | refine C.condD rfl (fun c44 => ?_) (fun c44 => ?_) | refine C.cond rfl (fun c44 => ?_) (fun c44 => ?_)
  · refine C.seq ?_
    refine C.region ?_
    refine W.buildS (fs := _) [(0, 32), (32, 2), (34, 2), (36, 2)] zeroSubC zeroSubC Try.underlying40 (by kernel_rfl) (by kernel_rfl) rfl rfl rfl ?_
    refine W.move rfl rfl ?_
    refine W.storeA zeroSubC rfl rfl hB2r rfl (by kernel_rfl) (subL_one (by intro v hv; simp [subZ] at hv; rcases hv with rfl | rfl | rfl | rfl | rfl | rfl <;> rfl)) ?_
    intro w33 hc33 hB33
    refine W.assign rfl rfl ?_
    refine W.nil ?_
    refine At.thenCode ?_
    refine C.ret ?_
    refine At.thenRet ?_
    -- RESULT IN A CELL
    refine At.retCT Try.results21 rfl rfl (hB33.cells (o := 0)) Try.underlying40 rfl (by kernel_rfl) ?_
    rw [List.drop_zero]
    have hR : subR b = zeroSub := by unfold subR; rw [if_neg (by omega)]
    refine ⟨.slice none 0 0, by rw [hR]; rfl, by rw [hR]; exact ⟨none, 0, rfl, Sl.none _ _, fun ad e => by cases e⟩, hX42.news hc33 fun k hk => Or.inr (by omega)⟩
  · refine C.skip ?_
    refine At.thenCode ?_
    refine C.seq ?_
    refine C.region ?_
    refine W.loadA rfl (hB42.cells (o := 0)) Try.underlying40 rfl (by rw [List.drop_zero, subL_length hu]; kernel_rfl) rfl ?_
    rw [List.drop_zero]
    refine W.storeA (subL p1.1 [u64V p2.1, .slice ao p4.1.length cb, u64V p5.1, u64V p6.1, u64V p7.1, u64V p8.1]) rfl rfl hB2r (by rw [subL_length hu]; rfl) (by rw [subL_length hu]; kernel_rfl) (subL_one (by intro v hv; simp at hv; rcases hv with rfl | rfl | rfl | rfl | rfl | rfl <;> rfl)) ?_
    intro w36 hc36 hB36
    refine W.assign rfl rfl ?_
    refine W.nil ?_
    refine At.thenCode ?_
    refine C.ret ?_
    -- RESULT IN A CELL
    refine At.retCT Try.results21 rfl rfl (hB36.cells (o := 0)) Try.underlying40 rfl (by rw [List.drop_zero, subL_length hu]; kernel_rfl) ?_
    rw [List.drop_zero]
    have h0 : subRE b = 0 := by omega
    have hR : subR b = subS b := by unfold subR; rw [if_pos h0]
    refine ⟨.slice ao p4.1.length cb, by rw [hR, hS, h0]; rfl, ?_, hX42.news hc36 fun k hk => Or.inr (by omega)⟩
    rw [hR, hS]
    have := rByt.chg hY42 (hc36.mono fun k hk => by right; right; right; exact hk)
    exact rByt.new this fun k hk _ => Or.inl hk
end Go.Proofs.Ytpjdkobmcjgcjaa.Cod
