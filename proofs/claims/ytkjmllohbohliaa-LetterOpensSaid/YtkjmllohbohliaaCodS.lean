/- Package codec's functions that read: keys, proofs, notes, submissions, entries. -/
import Derived.Test.YtkjmllohbohliaaCodR
import Derived.Test.YtkjmllohbohliaaCodF
namespace Go.Proofs.Ytkjmllohbohliaa.Cod
open Go Go.RowKit Go.Proofs.Ytkjmllohbohliaa.KW Go.Proofs.Ytkjmllohbohliaa.Words Go.Proofs.Ytkjmllohbohliaa.Grp
set_option linter.unusedVariables false
set_option linter.unusedSimpArgs false
set_option maxRecDepth 100000
theorem splice_pre (xs : List UInt8) {n : Nat} (h : xs.length ≤ n) (pre : List Value) : KW.splice (pre ++ (List.replicate n (0 : UInt8)).map byteV) pre.length (xs.map byteV) = pre ++ (xs ++ List.replicate (n - xs.length) 0).map byteV := by
  apply List.ext_getElem?
  intro i
  rw [splice_get _ _ _ _ (by simp; omega), List.length_map]
  by_cases h1 : i < pre.length
  · rw [if_neg (by omega), List.getElem?_append_left h1, List.getElem?_append_left h1]
  · rw [List.getElem?_append_right (by omega), List.getElem?_append_right (by omega), List.map_append]
    by_cases h2 : i < pre.length + xs.length
    · rw [if_pos ⟨by omega, h2⟩, List.getElem?_append_left (by simp; omega)]
    · rw [if_neg (by omega), List.getElem?_append_right (by simp; omega)]
      simp only [List.length_map, List.map_replicate, List.getElem?_replicate]
      by_cases h3 : i - pre.length < n
      · rw [if_pos h3, if_pos (by omega)]
      · rw [if_neg h3, if_neg (by omega)]
def Z32 : List Value := (List.replicate 32 (0 : UInt8)).map byteV
theorem Z32_one : ∀ u ∈ Z32, u.oneCell' = true := bytes_oneCell _
def KeyP (w0 : World) (g : Nat) (q : Option Addr) (c : Nat) (b : List UInt8) (s : St) (v : Value) (w : World) : Prop := ∃ ao c', v = .slice ao (takeS 32 s).1.length c' ∧ NewB w0 w ao c' (takeS 32 s).1 ∧ Rdr w g q c b (takeS 32 s).2
theorem NewB.ext {w w1 w2 : World} {ao : Option Addr} {c : Nat} {xs : List UInt8} (h : NewB w w1 ao c xs) (x : Ext w1 w2) : NewB w w2 ao c xs := ⟨h.1.ext x, h.2⟩
theorem NewB.old {w0 w w1 : World} {ao : Option Addr} {c : Nat} {xs : List UInt8} (h : NewB w w1 ao c xs) (x : w0.heap.size ≤ w.heap.size) : NewB w0 w1 ao c xs := ⟨h.1, fun ad e hn => Nat.le_trans x (h.2 ad e hn)⟩
theorem KeyP.ext {w0 w w' : World} {g : Nat} {q : Option Addr} {c : Nat} {b : List UInt8} {s : St} {v : Value} (h : KeyP w0 g q c b s v w) (x : Ext w w') : KeyP w0 g q c b s v w' := by
  obtain ⟨ao, c', e, h1, h2⟩ := h
  exact ⟨ao, c', e, h1.ext x, h2.ext x⟩

theorem splice_mid {pre mid post xs : List Value} (h : xs.length = mid.length) : KW.splice (pre ++ (mid ++ post)) pre.length xs = pre ++ (xs ++ post) := by
  apply List.ext_getElem?
  intro i
  rw [splice_get _ _ _ _ (by simp; omega)]
  by_cases h1 : i < pre.length
  · rw [if_neg (by omega), List.getElem?_append_left h1, List.getElem?_append_left h1]
  · have e1 : (pre ++ (mid ++ post))[i]? = (mid ++ post)[i - pre.length]? := List.getElem?_append_right (by omega)
    have e2 : (pre ++ (xs ++ post))[i]? = (xs ++ post)[i - pre.length]? := List.getElem?_append_right (by omega)
    rw [e1, e2]
    by_cases h2 : i < pre.length + xs.length
    · rw [if_pos ⟨by omega, h2⟩, List.getElem?_append_left (by omega)]
    · rw [if_neg (by omega), List.getElem?_append_right (by omega), List.getElem?_append_right (by omega), h]
theorem far_new {w : World} {q : Option Addr} {c : Nat} {b : List UInt8} (hs : Bs w q c b) {g : Nat} (hg : w.heap.size ≤ g) : ∀ ad, q = some ad → b ≠ [] → ad.block ≠ g := fun ad e hn h => by
  have := hs.blk e (by simpa using hn)
  omega
def RdrC (q : Option Addr) (c : Nat) (b : List UInt8) : List Value := [.slice q b.length c, .int .i64 0, .int .i64 0]
def zeroNoteC : List Value := [u64V 0, u64V 0] ++ Z32
theorem zeroNoteC_eq : noteC zeroNote = zeroNoteC := rfl
theorem ReadNote_ok (q : Option Addr) (c : Nat) (b : List UInt8) (w : World) (hb : Bs w q c b) (hlen : b.length ≤ 1099511627776) :
    Ct Try.prog 59 #[.slice q b.length c] w (fun v w' => v = .tuple #[.agg (noteC (noteR b)).toArray, .int .i64 (noteRE b : Int)] ∧ Ext w w') := by
  refine Ct.enter [(0, .slice q b.length c)] Try.func59 rfl rfl rfl rfl ?_
  have hnl := noteC_length (noteS_ok b)
  obtain ⟨s2, hs2⟩ : ∃ s, s = (numS (numS (0, b)).2).2 := ⟨_, rfl⟩
  have hkl := takeS_len 32 s2
  have hk32 := keyS_len s2
  have hNS : noteS b = (⟨(numS (0, b)).1, (numS (numS (0, b)).2).1, (keyS s2).1⟩, (keyS s2).2) := by rw [hs2]; rfl
  refine C.seq ?_
  refine C.region ?_
  refine W.alloc (z := .agg zeroNoteC.toArray) zeroNoteC (by kernel_rfl) rfl rfl ?_
  intro g2 w2 hg2 hX2 hB2
  refine W.assign rfl rfl ?_
  refine W.nil ?_
  refine At.thenCode ?_
  refine C.seq ?_
  refine C.region ?_
  refine W.move rfl rfl ?_
  refine W.buildS (fs := _) [(0, 1), (1, 1), (2, 1)] (RdrC q c b) [.slice none 0 0, .int .i64 0, .int .i64 0] Try.underlying99 (by kernel_rfl) (by kernel_rfl) rfl rfl rfl ?_
  refine W.box (RdrC q c b) rfl rfl rfl ?_
  intro g9 w9 hg9 hX9 hB9
  have hX9a := hX2.ext hX9
  have hr9 : Rdr w9 g9 q c b (0, b) := Rdr.mk' hB9 (hb.ext hX9a) (far_new hb (by have := hX2.size; omega))
  have hB2a := hB2.ext hX9
  have hl2 := hB2.lt
  refine W.assign rfl rfl ?_
  refine W.nil ?_
  refine At.thenCode ?_
  refine C.seq ?_
  refine C.region ?_
  refine W.move rfl rfl ?_
  refine W.call Try.call78 rfl (Cod.number_ok _ _ _ _ _ _ (by assumption) (by assumption)) rfl ?_
  rintro v11 w11 ⟨rfl, hP11⟩
  have hr11 := hP11.rdr
  refine W.move rfl rfl ?_
  refine W.call Try.call78 rfl (Cod.number_ok _ _ _ _ _ _ (by assumption) (by assumption)) rfl ?_
  rintro v13 w13 ⟨rfl, hP13⟩
  have hr13 := hP13.rdr
  rw [← hs2] at hr13
  have hB2b := (hB2a.chg hP11.chg (by omega)).chg hP13.chg (by omega)
  have hX13 := hP13.old (by have := hX2.size; omega) (hP11.old (by have := hX2.size; omega) hX9a)
  refine W.buildS (fs := _) [(0, 1), (1, 1), (2, 32)] ([u64V (numS (0, b)).1, u64V (numS (numS (0, b)).2).1] ++ Z32) zeroNoteC Try.underlying34 (by kernel_rfl) (by kernel_rfl) rfl rfl rfl ?_
  refine W.alloc (z := .agg zeroNoteC.toArray) zeroNoteC (by kernel_rfl) rfl rfl ?_
  intro g5 w5 hg5 hX5 hB5
  have hl13 := hr13.lt
  refine W.storeA ([u64V (numS (0, b)).1, u64V (numS (numS (0, b)).2).1] ++ Z32) rfl rfl hB5 rfl (by kernel_rfl) (by intro u hu; rcases List.mem_append.1 hu with h | h; simp at h; rcases h with rfl | rfl <;> rfl; exact Z32_one u h) ?_
  intro w6 hc6 hB6
  have hX6 : Ext w13 w6 := hX5.news hc6 fun k hk => Or.inr (by omega)
  have hX6a := hX13.ext hX6
  have hB2c := hB2b.ext hX6
  have hl2b := hB2b.lt
  have hr6 := hr13.ext hX6
  refine W.nil ?_
  refine At.thenCode ?_
  refine C.seq ?_
  refine C.regionAnyB (fun k b => k = 3 ∧ b = g9) 4 ((fun v w => v = .pointer (some ⟨g5, 2, none⟩)) :: (fun v w => v = .slice (some ⟨g5, 2, none⟩) 32 32) :: (fun v w => v = .pointer (some ⟨g9, 0, none⟩)) :: (fun v w => KeyP w6 g9 q c b s2 v w) :: []) [(0, .slice q b.length c), (2, .pointer (some ⟨g2, 0, none⟩)), (4, .pointer (some ⟨g9, 0, none⟩)), (5, .pointer (some ⟨g5, 0, none⟩))] [] (Sub.cons (rfl) (Sub.cons (rfl) (Sub.cons (rfl) (Sub.cons (rfl) (Sub.nil))))) (Sub.nil) (Sub.cons (rfl) (Sub.cons (rfl) (Sub.cons (rfl) (Sub.cons (rfl) (Sub.nil))))) (by kernel_rfl) rfl rfl rfl (And.intro (fun _ _ _ h _ => h) (And.intro (fun _ _ _ h _ => h) (And.intro (fun _ _ _ h _ => h) (And.intro (fun _ _ _ h g => KeyP.ext h (FamPost.ext g (fun k q h1 h2 h3 => h1 h3.1))) (trivial))))) ?_ ?_
  · refine And.intro ?_ ?_
    · intro L_ wr hX_ hs_ hf_ hd_
      refine W.step [(5, _)] (Sub.cons (hs_ _ _ rfl) (Sub.refl _)) ?_
      refine W.fieldB (off := 2) (size := 32) (t := 22) (Fld.of (by kernel_rfl)) rfl rfl rfl ?_
      refine W.nil ?_
      exact At.stepF (Fam.ofExt (Ext.refl _)) rfl
    refine And.intro ?_ ?_
    · intro L_ wr hX_ hs_ hf_ hd_
      obtain ⟨v0, e0, r0⟩ := hd_ 0 rfl
      obtain rfl : (.pointer (some ⟨g5, 2, none⟩) : Value) = v0 := Eq.symm r0
      refine W.step [(15, _)] (Sub.cons (e0 _ rfl) (Sub.refl _)) ?_
      refine W.sliceA X8 Try.underlying22 rfl rfl ?_
      refine W.nil ?_
      exact At.stepF (Fam.ofExt (Ext.refl _)) rfl
    refine And.intro ?_ ?_
    · intro L_ wr hX_ hs_ hf_ hd_
      refine W.step [(4, _)] (Sub.cons (hs_ _ _ rfl) (Sub.refl _)) ?_
      refine W.move rfl rfl ?_
      refine W.nil ?_
      exact At.stepF (Fam.ofExt (Ext.refl _)) rfl
    refine And.intro ?_ ?_
    · intro L_ wr hX_ hs_ hf_ hd_
      obtain ⟨v2, e2, r2⟩ := hd_ 2 rfl
      obtain rfl : (.pointer (some ⟨g9, 0, none⟩) : Value) = v2 := Eq.symm r2
      refine W.step [(17, _)] (Sub.cons (e2 _ rfl) (Sub.refl _)) ?_
      have hXe := FamPre.ext hX_ (fun k q h1 h2 h3 => h1 h3.1)
      have hr := hr6.ext hXe
      refine W.call Try.call79 rfl (Cod.rbytes_ok g9 q c b s2 32 _ hr hlen (by decide)) rfl ?_
      rintro v18 w18 ⟨ao18, c18, rfl, hN18, hP18⟩
      refine W.nil ?_
      exact At.stepF (Fam.of 3 (hP18.chg.mono fun k hk => ⟨rfl, hk⟩)) ⟨ao18, c18, rfl, hN18.old hXe.size, hP18.rdr⟩
    exact trivial
  · intro L_ wr hX3 hs_ hv_
    obtain ⟨v1, e1, r1⟩ := hv_ 1 (by decide)
    obtain rfl : (.slice (some ⟨g5, 2, none⟩) 32 32 : Value) = v1 := Eq.symm r1
    obtain ⟨v3, e3, r3⟩ := hv_ 3 (by decide)
    obtain ⟨ao18, c18, rfl, hN18, hR18⟩ := r3
    refine W.weaken (l' := [(16, _), (18, _), (0, _), (2, _), (4, _), (5, _)]) (Sub.cons (e1 _ rfl) (Sub.cons (e3 _ rfl) (Sub.cons (hs_ _ _ rfl) (Sub.cons (hs_ _ _ rfl) (Sub.cons (hs_ _ _ rfl) (Sub.cons (hs_ _ _ rfl) (Sub.nil))))))) ?_
    have hC3 : Chg (fun k => k = g9) w6 wr := Chg.mono hX3 fun b ⟨k, h1, h2⟩ => h2
    have hB6r := hB6.chg hC3 (by omega)
    have hB2r := hB2c.chg hC3 (by omega)
    refine W.copyB (k := (takeS 32 s2).1.length) (cs := [u64V (numS (0, b)).1, u64V (numS (numS (0, b)).2).1] ++ Z32) Try.underlying24 (by kernel_rfl) rfl rfl hB6r hN18.1 (bytes_oneCell _) (by show _ = min _ _; omega) (by show 2 + _ ≤ 34; omega) rfl ?_
    intro w7 hc7 hB7
    have hsp := splice_pre (takeS 32 s2).1 hkl [u64V (numS (0, b)).1, u64V (numS (numS (0, b)).2).1]
    have hB7 : Bk w7 g5 (noteC (noteS b).1) := by
      rw [List.take_of_length_le (by simp)] at hB7
      unfold Z32 at hB7
      have e2 : [u64V (numS (0, b)).1, u64V (numS (numS (0, b)).2).1].length = 2 := rfl
      rw [e2] at hsp
      rw [hsp] at hB7
      rw [hNS]
      exact hB7
    have hB2s := hB2r.chg hc7 (by omega)
    have hX7 : Ext w w7 := (hX6a.news hC3 fun k hk => Or.inr (by have := hX2.size; omega)).news hc7 fun k hk => Or.inr (by have := hX13.size; omega)
    have hr7 : Rdr w7 g9 q c b (keyS s2).2 := by
      obtain ⟨p, e, r1, r2⟩ := hR18.out
      exact ⟨⟨p, e, r1.chg hc7 (by omega), r2⟩, hb.ext hX7, hR18.far⟩
    refine W.nil ?_
    refine At.thenCode ?_
    refine C.seq ?_
    refine C.seq ?_
    refine C.region ?_
    refine W.move rfl rfl ?_
    refine W.call Try.call80 rfl (Cod.over_ok _ _ _ _ _ _ (by assumption) (by assumption)) rfl ?_
    rintro v21 w21 ⟨rfl, hC21⟩
    have hB7a := hB7.chg hC21 (by omega)
    have hB2t := hB2s.chg hC21 (by omega)
    have hX21 : Ext w w21 := hX7.news hC21 fun k hk => Or.inr (by have := hX2.size; omega)
    have hRE : noteRE b = overS (keyS s2).2 := by unfold noteRE; rw [hNS]
    refine W.assign rfl rfl ?_
    refine W.nil ?_
    refine At.thenCode ?_
    refine C.seq ?_
    refine C.region ?_
    refine W.move rfl rfl ?_
    refine W.neqI rfl rfl rfl ?_
    refine W.nil ?_
    refine At.thenCode ?_
    first | refine C.condD rfl (fun c23 => ?_) (fun c23 => ?_) | refine C.cond rfl (fun c23 => ?_) (fun c23 => ?_)
    · refine C.seq ?_
      refine C.region ?_
      refine W.buildS (fs := _) [(0, 1), (1, 1), (2, 32)] zeroNoteC zeroNoteC Try.underlying34 (by kernel_rfl) (by kernel_rfl) rfl rfl rfl ?_
      refine W.move rfl rfl ?_
      refine W.storeA zeroNoteC rfl rfl hB2t rfl (by kernel_rfl) (by rw [← zeroNoteC_eq]; exact noteC_one _) ?_
      intro w24 hc24 hB24
      refine W.assign rfl rfl ?_
      refine W.nil ?_
      refine At.thenCode ?_
      refine C.ret ?_
      refine At.thenRet ?_
      -- RESULT IN A CELL
      refine At.retCT Try.results59 rfl rfl (hB24.cells (o := 0)) Try.underlying34 rfl (by kernel_rfl) ?_
      rw [List.drop_zero]
      have hR : noteR b = zeroNote := by unfold noteR; rw [if_neg (by rw [hRE]; omega)]
      exact ⟨by rw [hR, hRE]; rfl, hX21.news hc24 fun k hk => Or.inr (by omega)⟩
    · refine C.skip ?_
      refine At.thenCode ?_
      refine C.seq ?_
      refine C.region ?_
      refine W.loadA rfl (hB7a.cells (o := 0)) Try.underlying34 rfl (by rw [List.drop_zero, hnl]; kernel_rfl) rfl ?_
      rw [List.drop_zero]
      refine W.storeA (noteC (noteS b).1) rfl rfl hB2t (by rw [hnl]; rfl) (by rw [hnl]; kernel_rfl) (noteC_one _) ?_
      intro w26 hc26 hB26
      refine W.assign rfl rfl ?_
      refine W.nil ?_
      refine At.thenCode ?_
      refine C.ret ?_
      -- RESULT IN A CELL
      refine At.retCT Try.results59 rfl rfl (hB26.cells (o := 0)) Try.underlying34 rfl (by rw [List.drop_zero, hnl]; kernel_rfl) ?_
      rw [List.drop_zero]
      have h0 : noteRE b = 0 := by rw [hRE]; omega
      have hR : noteR b = (noteS b).1 := by unfold noteR; rw [if_pos h0]
      exact ⟨by rw [hR, h0]; rfl, hX21.news hc26 fun k hk => Or.inr (by omega)⟩
end Go.Proofs.Ytkjmllohbohliaa.Cod
