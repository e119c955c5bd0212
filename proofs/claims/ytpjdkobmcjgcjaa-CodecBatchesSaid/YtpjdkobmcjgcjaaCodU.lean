/- Package codec's function that reads a submission. -/
import Derived.Test.YtpjdkobmcjgcjaaCodT
namespace Go.Proofs.Ytpjdkobmcjgcjaa.Cod
open Go Go.RowKit Go.Proofs.Ytpjdkobmcjgcjaa.KW Go.Proofs.Ytpjdkobmcjgcjaa.Words Go.Proofs.Ytpjdkobmcjgcjaa.Grp
set_option linter.unusedVariables false
set_option linter.unusedSimpArgs false
set_option maxRecDepth 100000
/-- A submission's cells. -/
def subL (u : List UInt8) (t : List Value) : List Value := u.map byteV ++ t
def subZ : List Value := [u64V 0, .slice none 0 0, u64V 0, u64V 0, u64V 0, u64V 0]
def zeroSubC : List Value := subL zeros32 subZ
theorem subL_set {u : List UInt8} (h : u.length = 32) (t : List Value) (j : Nat) (v : Value) : (subL u t).set (32 + j) v = subL u (t.set j v) := by
  unfold subL
  rw [List.set_append_right _ _ (by rw [List.length_map]; omega), List.length_map, h, show 32 + j - 32 = j by omega]
theorem subL_splice {u : List UInt8} (h : u.length = 32) : ∀ (vs t : List Value) (j : Nat), KW.splice (subL u t) (32 + j) vs = subL u (KW.splice t j vs) := by
  intro vs
  induction vs with
  | nil => intro t j; rfl
  | cons v r ih =>
    intro t j
    rw [KW.splice, subL_set h, show 32 + j + 1 = 32 + (j + 1) by omega, ih]
    rfl
theorem subL_length {u : List UInt8} (h : u.length = 32) (t : List Value) : (subL u t).length = 32 + t.length := by unfold subL; rw [List.length_append, List.length_map, h]
theorem subL_key {u : List UInt8} (h : u.length = 32) (t : List Value) : KW.splice (subL zeros32 t) 0 (u.map byteV) = subL u t := by
  have := splice_mid (pre := []) (mid := zeros32.map byteV) (post := t) (xs := u.map byteV) (by rw [List.length_map, List.length_map, h]; rfl)
  simpa [subL] using this
theorem subL_one {u : List UInt8} {t : List Value} (h : ∀ v ∈ t, v.oneCell' = true) : ∀ v ∈ subL u t, v.oneCell' = true := by
  intro v hv
  rcases List.mem_append.1 hv with h1 | h1
  · exact bytes_oneCell _ v h1
  · exact h v h1
theorem ReadSubmission_ok (q : Option Addr) (c : Nat) (b : List UInt8) (w : World) (hb : Bs w q c b) (hlen : b.length ≤ 1099511627776) :
    Ct Try.prog 17 #[.slice q b.length c] w (fun v w' => ∃ vb, v = .tuple #[.agg (subC (subR b) vb).toArray, .int .i64 (subRE b : Int)] ∧ RByt (fun k => k < w.heap.size) w' [vb] (subR b).box ∧ Ext w w') := by
  refine Ct.enter [(0, .slice q b.length c)] Try.func17 rfl rfl rfl rfl ?_
  have q1 := sub1_eq b
  have q2 := sub2_eq b
  have q3 := sub3_eq b
  have q4 := sub4_eq b
  have q5 := sub5_eq b
  have q6 := sub6_eq b
  have q7 := sub7_eq b
  have q8 := sub8_eq b
  have hS : subS b = ⟨(sub1 b).1, (sub2 b).1, (sub4 b).1, (sub5 b).1, (sub6 b).1, (sub7 b).1, (sub8 b).1⟩ := rfl
  have hRE : subRE b = overS (sub8 b).2 := rfl
  generalize sub1 b = p1 at *
  generalize sub2 b = p2 at *
  generalize sub3 b = p3 at *
  generalize sub4 b = p4 at *
  generalize sub5 b = p5 at *
  generalize sub6 b = p6 at *
  generalize sub7 b = p7 at *
  generalize sub8 b = p8 at *
  have hu : p1.1.length = 32 := by rw [q1]; exact keyS_len _
  have hn3 : p3.1 ≤ 1048576 := by rw [q3]; exact intS_le _ _
  refine C.seq ?_
  refine C.region ?_
  refine W.alloc (z := .agg zeroSubC.toArray) zeroSubC (by kernel_rfl) rfl rfl ?_
  intro g2 w2 hg2 hX2 hB2
  refine W.assign rfl rfl ?_
  refine W.nil ?_
  refine At.thenCode ?_
  refine C.seq ?_
  refine C.region ?_
  refine W.move rfl rfl ?_
  refine W.buildS (fs := _) [(0, 1), (1, 1), (2, 1)] (RdrC q c b) [.slice none 0 0, .int .i64 0, .int .i64 0] Try.underlying83 (by kernel_rfl) (by kernel_rfl) rfl rfl rfl ?_
  refine W.box (RdrC q c b) rfl rfl rfl ?_
  intro g9 w9 hg9 hX9 hB9
  have hX9a := hX2.ext hX9
  have hr9 : Rdr w9 g9 q c b (0, b) := Rdr.mk' hB9 (hb.ext hX9a) (far_new hb (by have := hX2.size; omega))
  have hB2a := hB2.ext hX9
  have hl2 := hB2.lt
  have hl9 := hB9.lt
  have hgw : w.heap.size ≤ g9 := by have := hX2.size; omega
  refine W.assign rfl rfl ?_
  refine W.nil ?_
  refine At.thenCode ?_
  refine C.seq ?_
  refine C.region ?_
  refine W.move rfl rfl ?_
  refine W.call Try.call42 rfl (Cod.key_ok _ _ _ _ _ _ (by assumption) (by assumption)) rfl ?_
  rintro v11 w11 ⟨rfl, hP11⟩
  rw [← q1] at hP11 ⊢
  have hr11 := hP11.rdr
  have hB2b := hB2a.chg hP11.chg (by omega)
  have hX11 := hP11.old hgw hX9a
  refine W.buildS (fs := _) [(0, 32), (32, 2), (34, 2), (36, 2)] (subL p1.1 subZ) zeroSubC Try.underlying40 (by kernel_rfl) (by kernel_rfl) rfl (by rw [fill_cons (us := p1.1.map byteV) (off := 0) rfl (by rw [List.length_map, hu]; rfl) (by rw [List.length_map, hu]; decide)]; unfold zeroSubC; rw [subL_key hu]; rfl) rfl ?_
  refine W.alloc (z := .agg zeroSubC.toArray) zeroSubC (by kernel_rfl) rfl rfl ?_
  intro g5 w5 hg5 hX5 hB5
  have hl11 := hP11.chg.size
  have hl5 := hB5.lt
  refine W.storeA (subL p1.1 subZ) rfl rfl hB5 (by rw [subL_length hu]; rfl) (by rw [subL_length hu]; kernel_rfl) (subL_one (by intro v hv; simp [subZ] at hv; rcases hv with rfl | rfl | rfl | rfl | rfl | rfl <;> rfl)) ?_
  intro w6 hc6 hB6
  have hX6 : Ext w11 w6 := hX5.news hc6 fun k hk => Or.inr (by omega)
  have hX6a := hX11.ext hX6
  have hB2c := hB2b.ext hX6
  have hr6 := hr11.ext hX6
  have hl6 := hc6.size
  refine W.nil ?_
  refine At.thenCode ?_
  refine C.seq ?_
  refine C.region ?_
  refine W.move rfl rfl ?_
  refine W.call Try.call43 rfl (Cod.element_ok g9 q c b p1.2 _ hr6 hlen) rfl ?_
  rintro v14 w14 ⟨rfl, hP14⟩
  rw [← q2] at hP14 ⊢
  have hr14 := hP14.rdr
  have hB14 := hB6.chg hP14.chg (by omega)
  have hB2d := hB2c.chg hP14.chg (by omega)
  have hX14 := hP14.old hgw hX6a
  refine W.fieldB (off := 32) (size := 2) (t := 36) (Fld.of (by kernel_rfl)) rfl rfl rfl ?_
  refine W.fieldB (off := 0) (size := 1) (t := 22) (Fld.of (by kernel_rfl)) rfl rfl rfl ?_
  refine W.store1 rfl rfl rfl hB14 (by rw [subL_length hu]; first | decide | simp) (by kernel_rfl) ?_
  intro w15 hc15 hB15
  have hB15 : Bk w15 g5 (subL p1.1 [u64V p2.1, .slice none 0 0, u64V 0, u64V 0, u64V 0, u64V 0]) := by
    have := subL_set hu subZ 0 (u64V p2.1)
    exact this ▸ hB15
  have hX15 : Ext w w15 := hX14.news hc15 fun k hk => Or.inr (by have := hX11.size; omega)
  have hr15 : Rdr w15 g9 q c b p2.2 := by
    obtain ⟨p, e, r1, r2⟩ := hr14.out
    exact ⟨⟨p, e, r1.chg hc15 (by omega), r2⟩, hb.ext hX15, hr14.far⟩
  have hB2e := hB2d.chg hc15 (by omega)
  refine W.nil ?_
  refine At.thenCode ?_
  refine C.seq ?_
  refine C.region ?_
  refine W.move rfl rfl ?_
  refine W.move rfl rfl ?_
  refine W.call Try.call44 rfl (Cod.rint_ok g9 q c b p2.2 1048576 _ hr15 hlen (by decide)) rfl ?_
  rintro v19 w19 ⟨rfl, hP19⟩
  rw [← q3] at hP19 ⊢
  have hr19 := hP19.rdr
  have hX19 := hP19.old hgw hX15
  refine W.call Try.call36 rfl (Cod.rbytes_ok g9 q c b p3.2 p3.1 _ hr19 hlen (by omega)) rfl ?_
  rintro v20 w20 ⟨ao, cb, rfl, hN20, hP20⟩
  rw [← q4] at hP20 hN20 ⊢
  have hr20 := hP20.rdr
  have hX20 := hP20.old hgw hX19
  have hB20 := (hB15.chg hP19.chg (by omega)).chg hP20.chg (by omega)
  have hB2f := (hB2e.chg hP19.chg (by omega)).chg hP20.chg (by omega)
  have hl20 : w11.heap.size ≤ w19.heap.size := by have := hX6.size; have := hP14.chg.size; have := hc15.size; have := hP19.chg.size; omega
  have hY20 : RByt (fun k => k < w.heap.size ∨ k = g9 ∨ k = g5 ∨ k = g2) w20 [.slice ao p4.1.length cb] p4.1 := hN20.byt (fun k hk => by have := hX19.size; have := hP19.chg.size; have := hc15.size; have := hP14.chg.size; have := hX6.size; omega)
  refine W.fieldB (off := 32) (size := 2) (t := 36) (Fld.of (by kernel_rfl)) rfl rfl rfl ?_
  refine W.fieldB (off := 1) (size := 1) (t := 27) (Fld.of (by kernel_rfl)) rfl rfl rfl ?_
  refine W.store1 rfl rfl rfl hB20 (by rw [subL_length hu]; first | decide | simp) (by kernel_rfl) ?_
  intro w21 hc21 hB21
  have hB21 : Bk w21 g5 (subL p1.1 [u64V p2.1, .slice ao p4.1.length cb, u64V 0, u64V 0, u64V 0, u64V 0]) := by
    have := subL_set hu [u64V p2.1, .slice none 0 0, u64V 0, u64V 0, u64V 0, u64V 0] 1 (.slice ao p4.1.length cb)
    exact this ▸ hB21
  have hX21 : Ext w w21 := hX20.news hc21 fun k hk => Or.inr (by have := hX11.size; omega)
  have hr21 : Rdr w21 g9 q c b p4.2 := by
    obtain ⟨p, e, r1, r2⟩ := hr20.out
    exact ⟨⟨p, e, r1.chg hc21 (by omega), r2⟩, hb.ext hX21, hr20.far⟩
  have hB2g := hB2f.chg hc21 (by omega)
  have hY21 := rByt.chg hY20 (hc21.mono fun k hk => by right; right; left; exact hk)
  refine W.nil ?_
  refine At.thenCode ?_
  refine C.seq ?_
  refine C.region ?_
  refine W.move rfl rfl ?_
  refine W.call Try.call45 rfl (Cod.rproof_ok g9 q c b p4.2 _ hr21 hlen) rfl ?_
  rintro v24 w24 ⟨rfl, hP24⟩
  rw [← q5, ← q6] at hP24 ⊢
  have hr24 := hP24.rdr
  have hX24 := hP24.old hgw hX21
  have hB24 := hB21.chg hP24.chg (by omega)
  have hB2h := hB2g.chg hP24.chg (by omega)
  have hY24 := rByt.chg hY21 (hP24.chg.mono fun k hk => Or.inr (Or.inl hk))
  refine W.fieldB (off := 34) (size := 2) (t := 38) (Fld.of (by kernel_rfl)) rfl rfl rfl ?_
  refine W.storeB [u64V p5.1, u64V p6.1] rfl rfl rfl hB24 (by rw [subL_length hu]; first | decide | simp) (by kernel_rfl) (by intro u hu; simp at hu; rcases hu with rfl | rfl <;> rfl) ?_
  intro w25 hc25 hB25
  have hB25 : Bk w25 g5 (subL p1.1 [u64V p2.1, .slice ao p4.1.length cb, u64V p5.1, u64V p6.1, u64V 0, u64V 0]) := by
    have := subL_splice hu [u64V p5.1, u64V p6.1] [u64V p2.1, .slice ao p4.1.length cb, u64V 0, u64V 0, u64V 0, u64V 0] 2
    exact this ▸ hB25
  have hX25 : Ext w w25 := hX24.news hc25 fun k hk => Or.inr (by have := hX11.size; omega)
  have hr25 : Rdr w25 g9 q c b p6.2 := by
    obtain ⟨p, e, r1, r2⟩ := hr24.out
    exact ⟨⟨p, e, r1.chg hc25 (by omega), r2⟩, hb.ext hX25, hr24.far⟩
  have hB2i := hB2h.chg hc25 (by omega)
  have hY25 := rByt.chg hY24 (hc25.mono fun k hk => by right; right; left; exact hk)
  refine W.nil ?_
  refine At.thenCode ?_
  refine C.seq ?_
  refine C.region ?_
  refine W.move rfl rfl ?_
  refine W.call Try.call45 rfl (Cod.rproof_ok g9 q c b p6.2 _ hr25 hlen) rfl ?_
  rintro v27 w27 ⟨rfl, hP27⟩
  rw [← q7, ← q8] at hP27 ⊢
  have hr27 := hP27.rdr
  have hX27 := hP27.old hgw hX25
  have hB27 := hB25.chg hP27.chg (by omega)
  have hB2j := hB2i.chg hP27.chg (by omega)
  have hY27 := rByt.chg hY25 (hP27.chg.mono fun k hk => Or.inr (Or.inl hk))
  refine W.fieldB (off := 36) (size := 2) (t := 38) (Fld.of (by kernel_rfl)) rfl rfl rfl ?_
  refine W.storeB [u64V p7.1, u64V p8.1] rfl rfl rfl hB27 (by rw [subL_length hu]; first | decide | simp) (by kernel_rfl) (by intro u hu; simp at hu; rcases hu with rfl | rfl <;> rfl) ?_
  intro w28 hc28 hB28
  have hB28 : Bk w28 g5 (subL p1.1 [u64V p2.1, .slice ao p4.1.length cb, u64V p5.1, u64V p6.1, u64V p7.1, u64V p8.1]) := by
    have := subL_splice hu [u64V p7.1, u64V p8.1] [u64V p2.1, .slice ao p4.1.length cb, u64V p5.1, u64V p6.1, u64V 0, u64V 0] 4
    exact this ▸ hB28
  have hX28 : Ext w w28 := hX27.news hc28 fun k hk => Or.inr (by have := hX11.size; omega)
  have hr28 : Rdr w28 g9 q c b p8.2 := by
    obtain ⟨p, e, r1, r2⟩ := hr27.out
    exact ⟨⟨p, e, r1.chg hc28 (by omega), r2⟩, hb.ext hX28, hr27.far⟩
  have hB2k := hB2j.chg hc28 (by omega)
  have hY28 := rByt.chg hY27 (hc28.mono fun k hk => by right; right; left; exact hk)
  refine W.nil ?_
  refine At.thenCode ?_
  refine C.seq ?_
  refine C.seq ?_
  refine C.region ?_
  refine W.move rfl rfl ?_
  refine W.call Try.call37 rfl (Cod.over_ok g9 q c b p8.2 _ hr28 hlen) rfl ?_
  rintro v30 w30 ⟨rfl, hC30⟩
  have hB30 := hB28.chg hC30 (by omega)
  have hB2l := hB2k.chg hC30 (by omega)
  have hX30 : Ext w w30 := hX28.news hC30 fun k hk => Or.inr (by omega)
  have hY30 := rByt.chg hY28 (hC30.mono fun k hk => Or.inr (Or.inl hk))
  rw [← hRE]
  refine W.assign rfl rfl ?_
  refine W.nil ?_
  refine At.thenCode ?_
  refine C.seq ?_
  refine C.region ?_
  refine W.move rfl rfl ?_
  refine W.neqI rfl rfl rfl ?_
  refine W.nil ?_
  refine At.thenCode ?_
  first | refine C.condD rfl (fun c32 => ?_) (fun c32 => ?_) | refine C.cond rfl (fun c32 => ?_) (fun c32 => ?_)
  · refine C.seq ?_
    refine C.region ?_
    refine W.buildS (fs := _) [(0, 32), (32, 2), (34, 2), (36, 2)] zeroSubC zeroSubC Try.underlying40 (by kernel_rfl) (by kernel_rfl) rfl rfl rfl ?_
    refine W.move rfl rfl ?_
    refine W.storeA zeroSubC rfl rfl hB2l rfl (by kernel_rfl) (subL_one (by intro v hv; simp [subZ] at hv; rcases hv with rfl | rfl | rfl | rfl | rfl | rfl <;> rfl)) ?_
    intro w33 hc33 hB33
    refine W.assign rfl rfl ?_
    refine W.nil ?_
    refine At.thenCode ?_
    refine C.ret ?_
    refine At.thenRet ?_
    -- RESULT IN A CELL
    refine At.retCT Try.results17 rfl rfl (hB33.cells (o := 0)) Try.underlying40 rfl (by kernel_rfl) ?_
    rw [List.drop_zero]
    have hR : subR b = zeroSub := by unfold subR; rw [if_neg (by omega)]
    refine ⟨.slice none 0 0, by rw [hR]; rfl, by rw [hR]; exact ⟨none, 0, rfl, Sl.none _ _, fun ad e => by cases e⟩, hX30.news hc33 fun k hk => Or.inr (by omega)⟩
  · refine C.skip ?_
    refine At.thenCode ?_
    refine C.seq ?_
    refine C.region ?_
    refine W.loadA rfl (hB30.cells (o := 0)) Try.underlying40 rfl (by rw [List.drop_zero, subL_length hu]; kernel_rfl) rfl ?_
    rw [List.drop_zero]
    refine W.storeA (subL p1.1 [u64V p2.1, .slice ao p4.1.length cb, u64V p5.1, u64V p6.1, u64V p7.1, u64V p8.1]) rfl rfl hB2l (by rw [subL_length hu]; rfl) (by rw [subL_length hu]; kernel_rfl) (subL_one (by intro v hv; simp at hv; rcases hv with rfl | rfl | rfl | rfl | rfl | rfl <;> rfl)) ?_
    intro w35 hc35 hB35
    refine W.assign rfl rfl ?_
    refine W.nil ?_
    refine At.thenCode ?_
    refine C.ret ?_
    -- RESULT IN A CELL
    refine At.retCT Try.results17 rfl rfl (hB35.cells (o := 0)) Try.underlying40 rfl (by rw [List.drop_zero, subL_length hu]; kernel_rfl) ?_
    rw [List.drop_zero]
    have h0 : subRE b = 0 := by omega
    have hR : subR b = subS b := by unfold subR; rw [if_pos h0]
    refine ⟨.slice ao p4.1.length cb, by rw [hR, hS, h0]; rfl, ?_, hX30.news hc35 fun k hk => Or.inr (by omega)⟩
    rw [hR, hS]
    have := rByt.chg hY30 (hc35.mono fun k hk => by right; right; right; exact hk)
    exact rByt.new this fun k hk _ => Or.inl hk
end Go.Proofs.Ytpjdkobmcjgcjaa.Cod
