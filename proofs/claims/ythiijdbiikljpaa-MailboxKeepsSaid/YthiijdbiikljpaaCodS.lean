/- Package codec's functions that read: keys, proofs, notes, submissions, entries. -/
import Derived.Test.YthiijdbiikljpaaCodR
import Derived.Test.YthiijdbiikljpaaCodF
namespace Go.Proofs.Ythiijdbiikljpaa.Cod
open Go Go.RowKit Go.Proofs.Ythiijdbiikljpaa.KW Go.Proofs.Ythiijdbiikljpaa.Words Go.Proofs.Ythiijdbiikljpaa.Grp
set_option linter.unusedVariables false
set_option linter.unusedSimpArgs false
set_option maxRecDepth 100000
theorem splice_pre (xs : List UInt8) {n : Nat} (h : xs.length ≤ n) (pre : List Value) : KW.splice (pre ++ (List.replicate n (0 : UInt8)).map byteV) pre.length (xs.map byteV) = pre ++ (xs ++ List.replicate (n - xs.length) 0).map byteV := by
  apply List.ext_getElem?
  intro i
  rw [splice_get _ _ _ _ (by simp; omega), List.length_map]
  by_cases h1 : i < pre.length
  · rw [if_neg (by omega), List.getElem?_append_left h1, List.getElem?_append_left h1]
  · rw [List.getElem?_append_right (by omega), List.getElem?_append_right (by omega), List.map_append]
    by_cases h2 : i < pre.length + xs.length
    · rw [if_pos ⟨by omega, h2⟩, List.getElem?_append_left (by simp; omega)]
    · rw [if_neg (by omega), List.getElem?_append_right (by simp; omega)]
      simp only [List.length_map, List.map_replicate, List.getElem?_replicate]
      by_cases h3 : i - pre.length < n
      · rw [if_pos h3, if_pos (by omega)]
      · rw [if_neg h3, if_neg (by omega)]
def Z32 : List Value := (List.replicate 32 (0 : UInt8)).map byteV
theorem Z32_one : ∀ u ∈ Z32, u.oneCell' = true := bytes_oneCell _
def KeyP (w0 : World) (g : Nat) (q : Option Addr) (c : Nat) (b : List UInt8) (s : St) (v : Value) (w : World) : Prop := ∃ ao c', v = .slice ao (takeS 32 s).1.length c' ∧ NewB w0 w ao c' (takeS 32 s).1 ∧ Rdr w g q c b (takeS 32 s).2
theorem NewB.ext {w w1 w2 : World} {ao : Option Addr} {c : Nat} {xs : List UInt8} (h : NewB w w1 ao c xs) (x : Ext w1 w2) : NewB w w2 ao c xs := ⟨h.1.ext x, h.2⟩
theorem NewB.old {w0 w w1 : World} {ao : Option Addr} {c : Nat} {xs : List UInt8} (h : NewB w w1 ao c xs) (x : w0.heap.size ≤ w.heap.size) : NewB w0 w1 ao c xs := ⟨h.1, fun ad e hn => Nat.le_trans x (h.2 ad e hn)⟩
theorem KeyP.ext {w0 w w' : World} {g : Nat} {q : Option Addr} {c : Nat} {b : List UInt8} {s : St} {v : Value} (h : KeyP w0 g q c b s v w) (x : Ext w w') : KeyP w0 g q c b s v w' := by
  obtain ⟨ao, c', e, h1, h2⟩ := h
  exact ⟨ao, c', e, h1.ext x, h2.ext x⟩
theorem key_ok (g : Nat) (q : Option Addr) (c : Nat) (b : List UInt8) (s : St) (w : World) (h : Rdr w g q c b s) (hlen : b.length ≤ 1099511627776) :
    Ct Try.prog 72 #[.pointer (some ⟨g, 0, none⟩)] w (fun v w' => v = .agg ((keyS s).1.map byteV).toArray ∧ RdP w g q c b (keyS s).2 w') := by
  refine Ct.enter [(0, .pointer (some ⟨g, 0, none⟩))] Try.func72 rfl rfl rfl rfl ?_
  have hgl := h.lt
  have hkl := takeS_len 32 s
  have hk32 := keyS_len s
  refine C.seq ?_
  refine C.region ?_
  refine W.alloc (z := .agg Z32.toArray) Z32 (by kernel_rfl) rfl rfl ?_
  intro g2 w2 hg2 hX2 hB2
  refine W.nil ?_
  refine At.thenCode ?_
  refine C.seq ?_
  refine C.region ?_
  refine W.alloc (z := .agg Z32.toArray) Z32 (by kernel_rfl) rfl rfl ?_
  intro g3 w3 hg3 hX3 hB3
  have hX3a := hX2.ext hX3
  have h3 := h.ext hX3a
  have hB2a := hB2.ext hX3
  have hl2 := hB2.lt
  refine W.nil ?_
  refine At.thenCode ?_
  refine C.seq ?_
  refine C.regionAnyB (fun k b => k = 2 ∧ b = g) 3 ((fun v w => v = .slice (some ⟨g3, 0, none⟩) 32 32) :: (fun v w => v = .pointer (some ⟨g, 0, none⟩)) :: (fun v w => KeyP w3 g q c b s v w) :: []) [(0, .pointer (some ⟨g, 0, none⟩)), (2, .pointer (some ⟨g2, 0, none⟩)), (3, .pointer (some ⟨g3, 0, none⟩))] [] (Sub.cons (rfl) (Sub.cons (rfl) (Sub.cons (rfl) (Sub.nil)))) (Sub.nil) (Sub.cons (rfl) (Sub.cons (rfl) (Sub.cons (rfl) (Sub.nil)))) (by kernel_rfl) rfl rfl rfl (And.intro (fun _ _ _ h _ => h) (And.intro (fun _ _ _ h _ => h) (And.intro (fun _ _ _ h g => KeyP.ext h (FamPost.ext g (fun k q h1 h2 h3 => h1 h3.1))) (trivial)))) ?_ ?_
  · refine And.intro ?_ ?_
    · intro L_ wr hX_ hs_ hf_ hd_
      refine W.step [(3, _)] (Sub.cons (hs_ _ _ rfl) (Sub.refl _)) ?_
      refine W.sliceA X8 Try.underlying50 rfl rfl ?_
      refine W.nil ?_
      exact At.stepF (Fam.ofExt (Ext.refl _)) rfl
    refine And.intro ?_ ?_
    · intro L_ wr hX_ hs_ hf_ hd_
      refine W.step [(0, _)] (Sub.cons (hs_ _ _ rfl) (Sub.refl _)) ?_
      refine W.move rfl rfl ?_
      refine W.nil ?_
      exact At.stepF (Fam.ofExt (Ext.refl _)) rfl
    refine And.intro ?_ ?_
    · intro L_ wr hX_ hs_ hf_ hd_
      obtain ⟨v1, e1, r1⟩ := hd_ 1 rfl
      obtain rfl : (.pointer (some ⟨g, 0, none⟩) : Value) = v1 := Eq.symm r1
      refine W.step [(5, _)] (Sub.cons (e1 _ rfl) (Sub.refl _)) ?_
      have hXe := FamPre.ext hX_ (fun k q h1 h2 h3 => h1 h3.1)
      have hr := h3.ext hXe
      refine W.call Try.call73 rfl (Cod.rbytes_ok g q c b s 32 _ hr hlen (by decide)) rfl ?_
      rintro v6 w6 ⟨ao6, c6, rfl, hN6, hP6⟩
      refine W.nil ?_
      exact At.stepF (Fam.of 2 ((Chg.mono (Chg.refl _ _) fun k hk => hk).trans (hP6.chg.mono fun k hk => ⟨rfl, hk⟩))) ⟨ao6, c6, rfl, hN6.old hXe.size, hP6.rdr⟩
    exact trivial
  · intro L_ wr hX2 hs_ hv_
    obtain ⟨v0, e0, r0⟩ := hv_ 0 (by decide)
    obtain rfl : (.slice (some ⟨g3, 0, none⟩) 32 32 : Value) = v0 := Eq.symm r0
    obtain ⟨v2, e2, r2⟩ := hv_ 2 (by decide)
    obtain ⟨ao6, c6, rfl, hN6, hR6⟩ := r2
    refine W.weaken (l' := [(4, _), (6, _), (0, _), (2, _), (3, _)]) (Sub.cons (e0 _ rfl) (Sub.cons (e2 _ rfl) (Sub.cons (hs_ _ _ rfl) (Sub.cons (hs_ _ _ rfl) (Sub.cons (hs_ _ _ rfl) (Sub.nil)))))) ?_
    have hC2 : Chg (fun k => k = g) w3 wr := Chg.mono hX2 fun b ⟨k, h1, h2⟩ => h2
    have hB3r := hB3.chg hC2 (by omega)
    have hB2r := hB2a.chg hC2 (by omega)
    refine W.copyB (k := (takeS 32 s).1.length) (cs := Z32) Try.underlying51 (by kernel_rfl) rfl rfl hB3r hN6.1 (bytes_oneCell _) (by show _ = min _ _; omega) (by show 0 + _ ≤ 32; omega) rfl ?_
    intro w7 hc7 hB7
    have hsp := splice_pre (takeS 32 s).1 hkl []
    have hB7 : Bk w7 g3 ((keyS s).1.map byteV) := by
      rw [List.take_of_length_le (by simp)] at hB7
      simp only [List.nil_append, List.length_nil] at hsp
      unfold Z32 at hB7
      rw [hsp] at hB7
      exact hB7
    have hB2s := hB2r.chg hc7 (by omega)
    refine W.nil ?_
    refine At.thenCode ?_
    refine C.seq ?_
    refine C.region ?_
    refine W.loadA rfl (hB7.cells (o := 0)) Try.underlying50 rfl (by rw [List.drop_zero, List.length_map, hk32]; kernel_rfl) rfl ?_
    rw [List.drop_zero]
    refine W.storeA ((keyS s).1.map byteV) rfl rfl hB2s (by rw [List.length_map, hk32]; rfl) (by rw [List.length_map, hk32]; kernel_rfl) (bytes_oneCell _) ?_
    intro w8 hc8 hB8
    refine W.nil ?_
    refine At.thenCode ?_
    refine C.ret ?_
    -- RESULT IN A CELL
    refine At.retC Try.results72 rfl (hB8.cells (o := 0)) Try.underlying50 rfl (by rw [List.drop_zero, List.length_map, hk32]; kernel_rfl) ?_
    rw [List.drop_zero]
    have hs3 := hX3a.size
    refine ⟨rfl, ⟨?_, ?_⟩⟩
    · obtain ⟨p, e, r1, r2⟩ := hR6.out
      refine ⟨⟨p, e, (r1.chg hc7 (by omega)).chg hc8 (by omega), r2⟩, ?_, hR6.far⟩
      exact (hR6.bs.chg hc7 (fun ad ea hn hk => by have := h.bs.blk ea (by simpa using hn); have := hX2.size; omega)).chg hc8 (fun ad ea hn hk => by have := h.bs.blk ea (by simpa using hn); omega)
    · have h1 : Chg (fun k => k = g) w wr := (Chg.mono hX3a fun k hk => hk.elim).trans hC2
      exact (h1.news hc7 fun k hk => Or.inr (by have := hX2.size; omega)).news hc8 fun k hk => Or.inr (by omega)

theorem splice_mid {pre mid post xs : List Value} (h : xs.length = mid.length) : KW.splice (pre ++ (mid ++ post)) pre.length xs = pre ++ (xs ++ post) := by
  apply List.ext_getElem?
  intro i
  rw [splice_get _ _ _ _ (by simp; omega)]
  by_cases h1 : i < pre.length
  · rw [if_neg (by omega), List.getElem?_append_left h1, List.getElem?_append_left h1]
  · have e1 : (pre ++ (mid ++ post))[i]? = (mid ++ post)[i - pre.length]? := List.getElem?_append_right (by omega)
    have e2 : (pre ++ (xs ++ post))[i]? = (xs ++ post)[i - pre.length]? := List.getElem?_append_right (by omega)
    rw [e1, e2]
    by_cases h2 : i < pre.length + xs.length
    · rw [if_pos ⟨by omega, h2⟩, List.getElem?_append_left (by omega)]
    · rw [if_neg (by omega), List.getElem?_append_right (by omega), List.getElem?_append_right (by omega), h]
theorem far_new {w : World} {q : Option Addr} {c : Nat} {b : List UInt8} (hs : Bs w q c b) {g : Nat} (hg : w.heap.size ≤ g) : ∀ ad, q = some ad → b ≠ [] → ad.block ≠ g := fun ad e hn h => by
  have := hs.blk e (by simpa using hn)
  omega
def RdrC (q : Option Addr) (c : Nat) (b : List UInt8) : List Value := [.slice q b.length c, .int .i64 0, .int .i64 0]
def zeroNoteC : List Value := [u64V 0, u64V 0] ++ Z32
theorem zeroNoteC_eq : noteC zeroNote = zeroNoteC := rfl
end Go.Proofs.Ythiijdbiikljpaa.Cod
