/- The readers of package codec and of the reference: what a call reads, and what is left. -/
import Derived.Test.YthiijdbiikljpaaCodD
import Derived.Test.YthiijdbiikljpaaKq
namespace Go.Proofs.Ythiijdbiikljpaa.Cod
open Go Go.RowKit Go.Proofs.Ythiijdbiikljpaa.KW Go.Proofs.Ythiijdbiikljpaa.Words Go.Proofs.Ythiijdbiikljpaa.Grp
set_option linter.unusedVariables false
set_option linter.unusedSimpArgs false
set_option maxRecDepth 100000
structure Rdr (w : World) (g : Nat) (q : Option Addr) (c : Nat) (b : List UInt8) (s : St) : Prop where
  out : ∃ p e : Nat, Bk w g [.slice q b.length c, .int .i64 (p : Int), .int .i64 (e : Int)] ∧ p ≤ b.length ∧ e ≤ 100 ∧ s = (e, if e = 0 then b.drop p else [])
  bs : Bs w q c b
  far : ∀ ad, q = some ad → b ≠ [] → ad.block ≠ g
structure RdP (w : World) (g : Nat) (q : Option Addr) (c : Nat) (b : List UInt8) (s : St) (w' : World) : Prop where
  rdr : Rdr w' g q c b s
  chg : Chg (fun k => k = g) w w'
theorem Rdr.ext {w w' : World} {g : Nat} {q : Option Addr} {c : Nat} {b : List UInt8} {s : St} (h : Rdr w g q c b s) (x : Ext w w') : Rdr w' g q c b s := by
  obtain ⟨p, e, h1, h2⟩ := h.out
  exact ⟨⟨p, e, h1.ext x, h2⟩, h.bs.ext x, h.far⟩
theorem Rdr.refl {w : World} {g : Nat} {q : Option Addr} {c : Nat} {b : List UInt8} {s : St} (h : Rdr w g q c b s) : RdP w g q c b s w := ⟨h, Chg.refl _ _⟩
theorem RdP.trans {w w1 w2 : World} {g : Nat} {q : Option Addr} {c : Nat} {b : List UInt8} {s t : St} (h : RdP w g q c b s w1) (k : RdP w1 g q c b t w2) : RdP w g q c b t w2 := ⟨k.rdr, h.chg.trans k.chg⟩
theorem RdP.ext {w w1 w2 : World} {g : Nat} {q : Option Addr} {c : Nat} {b : List UInt8} {s : St} (h : RdP w g q c b s w1) (x : Ext w1 w2) : RdP w g q c b s w2 := ⟨h.rdr.ext x, h.chg.ext x⟩
theorem Rdr.lt {w : World} {g : Nat} {q : Option Addr} {c : Nat} {b : List UInt8} {s : St} (h : Rdr w g q c b s) : g < w.heap.size := by obtain ⟨p, e, h1, _⟩ := h.out; exact h1.lt
theorem Rdr.set {w w' : World} {g : Nat} {q : Option Addr} {c : Nat} {b : List UInt8} {s : St} (h : Rdr w g q c b s) {p e : Nat} (hc : Chg (fun k => k = g) w w') (hb : Bk w' g [.slice q b.length c, .int .i64 (p : Int), .int .i64 (e : Int)]) (hp : p ≤ b.length) (he : e ≤ 100) : RdP w g q c b (e, if e = 0 then b.drop p else []) w' :=
  ⟨⟨⟨p, e, hb, hp, he, rfl⟩, Sl.chg h.bs hc (fun ad ea hn => h.far ad ea (by rintro rfl; exact hn rfl)), h.far⟩, hc⟩
theorem RdP.old {w0 w w' : World} {g : Nat} {q : Option Addr} {c : Nat} {b : List UInt8} {s : St} (h : RdP w g q c b s w') (hg : w0.heap.size ≤ g) (hX : Ext w0 w) : Ext w0 w' := hX.news h.chg fun k hk => Or.inr (by omega)
/-- A new reader. -/
theorem Rdr.mk' {w : World} {g : Nat} {q : Option Addr} {c : Nat} {b : List UInt8} (hb : Bk w g [.slice q b.length c, .int .i64 0, .int .i64 0]) (hs : Bs w q c b) (hf : ∀ ad, q = some ad → b ≠ [] → ad.block ≠ g) : Rdr w g q c b (0, b) := ⟨⟨0, 0, hb, Nat.zero_le _, by decide, rfl⟩, hs, hf⟩
theorem getE8 (b : List UInt8) (p : Nat) : getE b (p : Int) 8 = 0 ↔ p + 8 ≤ b.length := by rw [getE_0]; omega
theorem getV8 {b : List UInt8} {p : Nat} (h : p + 8 ≤ b.length) : getV b (p : Int) 8 = beNat ((b.drop p).take 8) := by unfold getV; rw [if_pos ((getE8 b p).2 h)]; simp
theorem numS_at {b : List UInt8} {p : Nat} (h : p + 8 ≤ b.length) : numS (0, b.drop p) = (beNat ((b.drop p).take 8), (0, b.drop (p + 8))) := by
  unfold numS
  rw [if_pos rfl, if_neg (by rw [List.length_drop]; omega)]
  simp only [List.drop_drop]
theorem numS_short {b : List UInt8} {p : Nat} (h : ¬ p + 8 ≤ b.length) : numS (0, b.drop p) = (0, (4, [])) := by
  unfold numS
  rw [if_pos rfl, if_pos (by show (b.drop p).length < 8; rw [List.length_drop]; omega)]
theorem takeS_at {b : List UInt8} {p n : Nat} (hp : p ≤ b.length) (h : p + n ≤ b.length) : takeS n (0, b.drop p) = ((b.drop p).take n, (0, b.drop (p + n))) := by
  unfold takeS
  rw [if_pos rfl, if_neg (by rw [List.length_drop]; omega)]
  simp only [List.drop_drop]
theorem takeS_short {b : List UInt8} {p n : Nat} (hp : p ≤ b.length) (h : ¬ p + n ≤ b.length) : takeS n (0, b.drop p) = ([], (4, [])) := by
  unfold takeS
  rw [if_pos rfl, if_pos (by show (b.drop p).length < n; rw [List.length_drop]; omega)]
theorem failS_cases (e0 e : Nat) (r : List UInt8) (he : e0 ≠ 0) : failS e0 (e, if e = 0 then r else []) = (if e = 0 then e0 else e, if (if e = 0 then e0 else e) = 0 then r else []) := by
  unfold failS
  by_cases h : e = 0
  · subst h; simp [he]
  · simp [h]
theorem fail_ok (g : Nat) (q : Option Addr) (c : Nat) (b : List UInt8) (s : St) (e0 : Nat) (w : World) (h : Rdr w g q c b s) (h0 : e0 ≠ 0) (h1 : e0 ≤ 100) :
    Ct Try.prog 81 #[.pointer (some ⟨g, 0, none⟩), .int .i64 (e0 : Int)] w (fun v w' => v = .tuple #[] ∧ RdP w g q c b (failS e0 s) w') := by
  refine Ct.enter [(0, .pointer (some ⟨g, 0, none⟩)), (1, .int .i64 (e0 : Int))] Try.func81 rfl rfl rfl rfl ?_
  obtain ⟨p, e, hB, hp, he, rfl⟩ := h.out
  have hfc := failS_cases e0 e (b.drop p) h0
  refine C.seq ?_
  refine C.region ?_
  refine W.move rfl rfl ?_
  refine W.nilCheck rfl rfl ?_
  refine W.fieldB (off := 2) (size := 1) (t := 28) (Fld.of (by kernel_rfl)) rfl rfl rfl ?_
  refine W.loadB rfl Try.underlying28 rfl (by assumption) rfl rfl ?_
  refine W.eqlI rfl rfl rfl ?_
  refine W.nil ?_
  refine At.thenCode ?_
  first | refine C.condD rfl (fun c8 => ?_) (fun c8 => ?_) | refine C.cond rfl (fun c8 => ?_) (fun c8 => ?_)
  · refine C.region ?_
    refine W.move rfl rfl ?_
    refine W.move rfl rfl ?_
    refine W.nilCheck rfl rfl ?_
    refine W.fieldB (off := 2) (size := 1) (t := 28) (Fld.of (by kernel_rfl)) rfl rfl rfl ?_
    refine W.store1 rfl rfl rfl hB (by simp) (by kernel_rfl) ?_
    intro w1 hc1 hB1
    refine W.nil ?_
    refine At.end0 Try.results81 ?_
    first
    | (refine ⟨rfl, ?_⟩
       rw [hfc, if_pos (by omega)]
       exact h.set hc1 hB1 hp h1)
    | (refine ⟨rfl, ?_⟩
       rw [hfc, if_neg (by omega)]
       exact h.refl)
  · refine C.skip ?_
    refine At.end0 Try.results81 ?_
    first
    | (refine ⟨rfl, ?_⟩
       rw [hfc, if_pos (by omega)]
       exact h.set hc1 hB1 hp h1)
    | (refine ⟨rfl, ?_⟩
       rw [hfc, if_neg (by omega)]
       exact h.refl)
theorem number_ok (g : Nat) (q : Option Addr) (c : Nat) (b : List UInt8) (s : St) (w : World) (h : Rdr w g q c b s) (hlen : b.length ≤ 1099511627776) :
    Ct Try.prog 70 #[.pointer (some ⟨g, 0, none⟩)] w (fun v w' => v = .int .u64 ((numS s).1 : Int) ∧ RdP w g q c b (numS s).2 w') := by
  refine Ct.enter [(0, .pointer (some ⟨g, 0, none⟩))] Try.func70 rfl rfl rfl rfl ?_
  obtain ⟨p, e, hB, hp, he, rfl⟩ := h.out
  refine C.seq ?_
  refine C.region ?_
  refine W.assign rfl rfl ?_
  refine W.nil ?_
  refine At.thenCode ?_
  refine C.seq ?_
  refine C.seq ?_
  refine C.region ?_
  refine W.move rfl rfl ?_
  refine W.nilCheck rfl rfl ?_
  refine W.fieldB (off := 2) (size := 1) (t := 28) (Fld.of (by kernel_rfl)) rfl rfl rfl ?_
  refine W.loadB rfl Try.underlying28 rfl (by assumption) rfl rfl ?_
  refine W.neqI rfl rfl rfl ?_
  refine W.nil ?_
  refine At.thenCode ?_
  first | refine C.condD rfl (fun c9 => ?_) (fun c9 => ?_) | refine C.cond rfl (fun c9 => ?_) (fun c9 => ?_)
  · refine C.seq ?_
    refine C.region ?_
    refine W.assign rfl rfl ?_
    refine W.nil ?_
    refine At.thenCode ?_
    refine C.ret ?_
    refine At.thenRet ?_
    refine At.ret1 Try.results70 rfl ?_
    have hns : numS (e, if e = 0 then b.drop p else []) = (0, (e, if e = 0 then b.drop p else [])) := numS_bad (by show e ≠ 0; omega)
    rw [hns]
    exact ⟨rfl, h.refl⟩
  · obtain rfl : e = 0 := by omega
    refine C.skip ?_
    refine At.thenCode ?_
    refine C.seq ?_
    refine C.regionAny 14 ((fun v w => v = .pointer (some ⟨g, 0, none⟩)) :: (fun v w => v = .pointer (some ⟨g, 0, none⟩)) :: (fun v w => v = .pointer (some ⟨g, 0, none⟩)) :: (fun v w => v = .slice q b.length c) :: (fun v w => v = .pointer (some ⟨g, 0, none⟩)) :: (fun v w => v = .pointer (some ⟨g, 0, none⟩)) :: (fun v w => v = .pointer (some ⟨g, 1, none⟩)) :: (fun v w => v = .int .i64 (p : Int)) :: (fun v w => v = .tuple #[.int .u64 ((getV b (p : Int) 8 : Nat) : Int), .int .i64 (getE b (p : Int) 8)]) :: (fun v w => v = .tuple #[.int .u64 ((getV b (p : Int) 8 : Nat) : Int), .int .i64 (getE b (p : Int) 8)]) :: (fun v w => v = .int .u64 ((getV b (p : Int) 8 : Nat) : Int)) :: (fun v w => v = .int .i64 (getE b (p : Int) 8)) :: (fun v w => v = .int .u64 ((getV b (p : Int) 8 : Nat) : Int)) :: (fun v w => v = .int .i64 (getE b (p : Int) 8)) :: []) [(0, .pointer (some ⟨g, 0, none⟩))] [] (Sub.cons (rfl) (Sub.nil)) (Sub.nil) (Sub.cons (rfl) (Sub.nil)) (by kernel_rfl) rfl rfl rfl (And.intro (fun _ _ _ h _ => h) (And.intro (fun _ _ _ h _ => h) (And.intro (fun _ _ _ h _ => h) (And.intro (fun _ _ _ h _ => h) (And.intro (fun _ _ _ h _ => h) (And.intro (fun _ _ _ h _ => h) (And.intro (fun _ _ _ h _ => h) (And.intro (fun _ _ _ h _ => h) (And.intro (fun _ _ _ h _ => h) (And.intro (fun _ _ _ h _ => h) (And.intro (fun _ _ _ h _ => h) (And.intro (fun _ _ _ h _ => h) (And.intro (fun _ _ _ h _ => h) (And.intro (fun _ _ _ h _ => h) (trivial))))))))))))))) ?_ ?_
    · refine And.intro ?_ ?_
      · intro L_ w3 hX_ hs_ hf_ hd_
        refine W.step [(0, _)] (Sub.cons (hs_ _ _ rfl) (Sub.refl _)) ?_
        refine W.move rfl rfl ?_
        refine W.nil ?_
        exact At.step (Ext.refl _) rfl
      refine And.intro ?_ ?_
      · intro L_ w3 hX_ hs_ hf_ hd_
        obtain ⟨v0, e0, r0⟩ := hd_ 0 rfl
        obtain rfl : (.pointer (some ⟨g, 0, none⟩) : Value) = v0 := Eq.symm r0
        refine W.step [(11, _)] (Sub.cons (e0 _ rfl) (Sub.refl _)) ?_
        refine W.nilCheck rfl rfl ?_
        refine W.nil ?_
        exact At.step (Ext.refl _) rfl
      refine And.intro ?_ ?_
      · intro L_ w3 hX_ hs_ hf_ hd_
        obtain ⟨v1, e1, r1⟩ := hd_ 1 rfl
        obtain rfl : (.pointer (some ⟨g, 0, none⟩) : Value) = v1 := Eq.symm r1
        refine W.step [(12, _)] (Sub.cons (e1 _ rfl) (Sub.refl _)) ?_
        refine W.fieldB (off := 0) (size := 1) (t := 51) (Fld.of (by kernel_rfl)) rfl rfl rfl ?_
        refine W.nil ?_
        exact At.step (Ext.refl _) rfl
      refine And.intro ?_ ?_
      · intro L_ w3 hX_ hs_ hf_ hd_
        obtain ⟨v2, e2, r2⟩ := hd_ 2 rfl
        obtain rfl : (.pointer (some ⟨g, 0, none⟩) : Value) = v2 := Eq.symm r2
        refine W.step [(13, _)] (Sub.cons (e2 _ rfl) (Sub.refl _)) ?_
        refine W.loadB rfl Try.underlying51 rfl (by first | exact Bk.ext (by assumption) hX_ | exact GP.bkOld hX_ (by assumption) (by omega) (by omega) | exact Bk.chg (by assumption) hX_.1 (by omega) | exact Bk.chg (by assumption) hX_ (by rintro ⟨q_, h1_, h2_, h3_⟩; omega)) rfl rfl ?_
        refine W.nil ?_
        exact At.step (Ext.refl _) rfl
      refine And.intro ?_ ?_
      · intro L_ w3 hX_ hs_ hf_ hd_
        refine W.step [(0, _)] (Sub.cons (hs_ _ _ rfl) (Sub.refl _)) ?_
        refine W.move rfl rfl ?_
        refine W.nil ?_
        exact At.step (Ext.refl _) rfl
      refine And.intro ?_ ?_
      · intro L_ w3 hX_ hs_ hf_ hd_
        obtain ⟨v4, e4, r4⟩ := hd_ 4 rfl
        obtain rfl : (.pointer (some ⟨g, 0, none⟩) : Value) = v4 := Eq.symm r4
        refine W.step [(15, _)] (Sub.cons (e4 _ rfl) (Sub.refl _)) ?_
        refine W.nilCheck rfl rfl ?_
        refine W.nil ?_
        exact At.step (Ext.refl _) rfl
      refine And.intro ?_ ?_
      · intro L_ w3 hX_ hs_ hf_ hd_
        obtain ⟨v5, e5, r5⟩ := hd_ 5 rfl
        obtain rfl : (.pointer (some ⟨g, 0, none⟩) : Value) = v5 := Eq.symm r5
        refine W.step [(16, _)] (Sub.cons (e5 _ rfl) (Sub.refl _)) ?_
        refine W.fieldB (off := 1) (size := 1) (t := 3) (Fld.of (by kernel_rfl)) rfl rfl rfl ?_
        refine W.nil ?_
        exact At.step (Ext.refl _) rfl
      refine And.intro ?_ ?_
      · intro L_ w3 hX_ hs_ hf_ hd_
        obtain ⟨v6, e6, r6⟩ := hd_ 6 rfl
        obtain rfl : (.pointer (some ⟨g, 1, none⟩) : Value) = v6 := Eq.symm r6
        refine W.step [(17, _)] (Sub.cons (e6 _ rfl) (Sub.refl _)) ?_
        refine W.loadB rfl Try.underlying3 rfl (by first | exact Bk.ext (by assumption) hX_ | exact GP.bkOld hX_ (by assumption) (by omega) (by omega) | exact Bk.chg (by assumption) hX_.1 (by omega) | exact Bk.chg (by assumption) hX_ (by rintro ⟨q_, h1_, h2_, h3_⟩; omega)) rfl rfl ?_
        refine W.nil ?_
        exact At.step (Ext.refl _) rfl
      refine And.intro ?_ ?_
      · intro L_ w3 hX_ hs_ hf_ hd_
        obtain ⟨v3, e3, r3⟩ := hd_ 3 rfl
        obtain rfl : (.slice q b.length c : Value) = v3 := Eq.symm r3
        obtain ⟨v7, e7, r7⟩ := hd_ 7 rfl
        obtain rfl : (.int .i64 (p : Int) : Value) = v7 := Eq.symm r7
        refine W.step [(14, _), (18, _)] (Sub.cons (e3 _ rfl) (Sub.cons (e7 _ rfl) (Sub.refl _))) ?_
        refine W.call Try.call45 rfl (Words.Get64_ok q c b (p : Int) _ (h.bs.ext hX_) hlen (by omega)) rfl ?_
        rintro v19 w19 ⟨rfl, rfl⟩
        refine W.nil ?_
        exact At.step (Ext.refl _) rfl
      refine And.intro ?_ ?_
      · intro L_ w3 hX_ hs_ hf_ hd_
        obtain ⟨v8, e8, r8⟩ := hd_ 8 rfl
        obtain rfl : (.tuple #[.int .u64 ((getV b (p : Int) 8 : Nat) : Int), .int .i64 (getE b (p : Int) 8)] : Value) = v8 := Eq.symm r8
        refine W.step [(19, _)] (Sub.cons (e8 _ rfl) (Sub.refl _)) ?_
        refine W.move rfl rfl ?_
        refine W.nil ?_
        exact At.step (Ext.refl _) rfl
      refine And.intro ?_ ?_
      · intro L_ w3 hX_ hs_ hf_ hd_
        obtain ⟨v9, e9, r9⟩ := hd_ 9 rfl
        obtain rfl : (.tuple #[.int .u64 ((getV b (p : Int) 8 : Nat) : Int), .int .i64 (getE b (p : Int) 8)] : Value) = v9 := Eq.symm r9
        refine W.step [(10, _)] (Sub.cons (e9 _ rfl) (Sub.refl _)) ?_
        refine W.extract rfl rfl rfl ?_
        refine W.nil ?_
        exact At.step (Ext.refl _) rfl
      refine And.intro ?_ ?_
      · intro L_ w3 hX_ hs_ hf_ hd_
        obtain ⟨v9, e9, r9⟩ := hd_ 9 rfl
        obtain rfl : (.tuple #[.int .u64 ((getV b (p : Int) 8 : Nat) : Int), .int .i64 (getE b (p : Int) 8)] : Value) = v9 := Eq.symm r9
        refine W.step [(10, _)] (Sub.cons (e9 _ rfl) (Sub.refl _)) ?_
        refine W.extract rfl rfl rfl ?_
        refine W.nil ?_
        exact At.step (Ext.refl _) rfl
      refine And.intro ?_ ?_
      · intro L_ w3 hX_ hs_ hf_ hd_
        obtain ⟨v10, e10, r10⟩ := hd_ 10 rfl
        obtain rfl : (.int .u64 ((getV b (p : Int) 8 : Nat) : Int) : Value) = v10 := Eq.symm r10
        refine W.step [(20, _)] (Sub.cons (e10 _ rfl) (Sub.refl _)) ?_
        refine W.assign rfl rfl ?_
        refine W.nil ?_
        exact At.step (Ext.refl _) rfl
      refine And.intro ?_ ?_
      · intro L_ w3 hX_ hs_ hf_ hd_
        obtain ⟨v11, e11, r11⟩ := hd_ 11 rfl
        obtain rfl : (.int .i64 (getE b (p : Int) 8) : Value) = v11 := Eq.symm r11
        refine W.step [(21, _)] (Sub.cons (e11 _ rfl) (Sub.refl _)) ?_
        refine W.assign rfl rfl ?_
        refine W.nil ?_
        exact At.step (Ext.refl _) rfl
      exact trivial
    · intro L_ w3 hX3 hs_ hv_
      obtain ⟨v12, e12, r12⟩ := hv_ 12 (by decide)
      obtain rfl : (.int .u64 ((getV b (p : Int) 8 : Nat) : Int) : Value) = v12 := Eq.symm r12
      obtain ⟨v13, e13, r13⟩ := hv_ 13 (by decide)
      obtain rfl : (.int .i64 (getE b (p : Int) 8) : Value) = v13 := Eq.symm r13
      refine W.weaken (l' := [(3, _), (4, _), (0, _)]) (Sub.cons (e12 _ rfl) (Sub.cons (e13 _ rfl) (Sub.cons (hs_ _ _ rfl) (Sub.nil)))) ?_
      refine W.nil ?_
      refine At.thenCode ?_
      refine C.seq ?_
      refine C.seq ?_
      refine C.region ?_
      refine W.move rfl rfl ?_
      refine W.neqI rfl rfl rfl ?_
      refine W.nil ?_
      refine At.thenCode ?_
      first | refine C.condD rfl (fun c23 => ?_) (fun c23 => ?_) | refine C.cond rfl (fun c23 => ?_) (fun c23 => ?_)
      · have hns : ¬ p + 8 ≤ b.length := fun hc => c23 ((getE8 b p).2 hc)
        have h3 := h.ext hX3
        refine C.seq ?_
        refine C.region ?_
        refine W.move rfl rfl ?_
        refine W.call Try.call81 rfl (Cod.fail_ok _ _ _ _ _ _ _ (by assumption) (by decide) (by decide)) rfl ?_
        rintro v25 w25 ⟨rfl, hP25⟩
        refine W.nil ?_
        refine At.thenCode ?_
        refine C.seq ?_
        refine C.region ?_
        refine W.assign rfl rfl ?_
        refine W.nil ?_
        refine At.thenCode ?_
        refine C.ret ?_
        refine At.thenRet ?_
        refine At.ret1 Try.results70 rfl ?_
        rw [if_pos rfl, numS_short hns]
        rw [if_pos rfl] at hP25
        refine ⟨rfl, ⟨hP25.rdr, (Chg.mono hX3 fun k hk => hk.elim).trans hP25.chg⟩⟩
      · have hns : p + 8 ≤ b.length := (getE8 b p).1 (by omega)
        have h3 := h.ext hX3
        have hB3 := hB.ext hX3
        refine C.skip ?_
        refine At.thenCode ?_
        refine C.seq ?_
        refine C.region ?_
        refine W.move rfl rfl ?_
        refine W.nilCheck rfl rfl ?_
        refine W.fieldB (off := 1) (size := 1) (t := 3) (Fld.of (by kernel_rfl)) rfl rfl rfl ?_
        refine W.loadB rfl Try.underlying3 rfl hB3 rfl rfl ?_
        first | refine W.addI rfl rfl (by omega) rfl ?_ | refine W.addW rfl rfl rfl ?_
        refine W.nilCheck rfl rfl ?_
        refine W.fieldB (off := 1) (size := 1) (t := 3) (Fld.of (by kernel_rfl)) rfl rfl rfl ?_
        refine W.store1 rfl rfl rfl hB3 (by simp) (by kernel_rfl) ?_
        intro w7 hc7 hB7
        have hP7 := h3.set (p := p + 8) (e := 0) hc7 (by simpa using hB7) (by omega) (by decide)
        refine W.nil ?_
        refine At.thenCode ?_
        refine C.seq ?_
        refine C.region ?_
        refine W.move rfl rfl ?_
        refine W.assign rfl rfl ?_
        refine W.nil ?_
        refine At.thenCode ?_
        refine C.ret ?_
        refine At.ret1 Try.results70 rfl ?_
        rw [if_pos rfl, numS_at hns]
        refine ⟨by rw [getV8 hns], ⟨by simpa using hP7.rdr, (Chg.mono hX3 fun k hk => hk.elim).trans hP7.chg⟩⟩
theorem rint_ok (g : Nat) (q : Option Addr) (c : Nat) (b : List UInt8) (s : St) (m : Nat) (w : World) (h : Rdr w g q c b s) (hlen : b.length ≤ 1099511627776) (hm : m ≤ 9223372036854775807) :
    Ct Try.prog 69 #[.pointer (some ⟨g, 0, none⟩), .int .i64 (m : Int)] w (fun v w' => v = .int .i64 ((intS m s).1 : Int) ∧ RdP w g q c b (intS m s).2 w') := by
  refine Ct.enter [(0, .pointer (some ⟨g, 0, none⟩)), (1, .int .i64 (m : Int))] Try.func69 rfl rfl rfl rfl ?_
  refine C.seq ?_
  refine C.region ?_
  refine W.assign rfl rfl ?_
  refine W.nil ?_
  refine At.thenCode ?_
  refine C.seq ?_
  refine C.region ?_
  refine W.move rfl rfl ?_
  refine W.call Try.call70 rfl (Cod.number_ok _ _ _ _ _ _ (by assumption) (by assumption)) rfl ?_
  rintro v7 w7 ⟨rfl, hP7⟩
  have hr7 := hP7.rdr
  have hlt := numS_lt s
  refine W.assign rfl rfl ?_
  refine W.nil ?_
  refine At.thenCode ?_
  refine C.seq ?_
  refine C.seq ?_
  refine C.region ?_
  refine W.move rfl rfl ?_
  refine W.move rfl rfl ?_
  first | refine W.convIN (M := 18446744073709551616) rfl Try.underlying3 Try.underlying41 rfl rfl (by omega) rfl ?_ | refine W.convIU (M := 18446744073709551616) rfl Try.underlying3 Try.underlying41 rfl rfl rfl ?_
  refine W.eqv (v' := .int .u64 (m : Int)) (iV (by omega)) ?_
  refine W.gtrU rfl rfl rfl ?_
  refine W.nil ?_
  refine At.thenCode ?_
  first | refine C.condD rfl (fun c11 => ?_) (fun c11 => ?_) | refine C.cond rfl (fun c11 => ?_) (fun c11 => ?_)
  · refine C.seq ?_
    refine C.region ?_
    refine W.move rfl rfl ?_
    refine W.call Try.call81 rfl (Cod.fail_ok _ _ _ _ _ _ _ (by assumption) (by decide) (by decide)) rfl ?_
    rintro v13 w13 ⟨rfl, hP13⟩
    refine W.nil ?_
    refine At.thenCode ?_
    refine C.seq ?_
    refine C.region ?_
    refine W.assign rfl rfl ?_
    refine W.nil ?_
    refine At.thenCode ?_
    refine C.ret ?_
    refine At.thenRet ?_
    refine At.ret1 Try.results69 rfl ?_
    have e : intS m s = (0, failS 2 (numS s).2) := by unfold intS; rw [if_pos (by omega)]
    rw [e]
    exact ⟨rfl, hP7.trans hP13⟩
  · refine C.skip ?_
    refine At.thenCode ?_
    refine C.seq ?_
    refine C.region ?_
    refine W.move rfl rfl ?_
    first | refine W.convI rfl Try.underlying41 Try.underlying3 (by omega) rfl ?_ | refine W.conv rfl Try.underlying41 Try.underlying3 rfl ?_
    refine W.assign rfl rfl ?_
    refine W.nil ?_
    refine At.thenCode ?_
    refine C.ret ?_
    refine At.ret1 Try.results69 rfl ?_
    have e : intS m s = numS s := by unfold intS; rw [if_neg (by omega)]
    rw [e]
    exact ⟨rfl, hP7⟩

def TakeP (g : Nat) (q : Option Addr) (c : Nat) (b : List UInt8) (w : World) (p : List UInt8 × St) : Value → World → Prop := fun v w' => ∃ ao c', v = .slice ao p.1.length c' ∧ NewB w w' ao c' p.1 ∧ RdP w g q c b p.2 w'
theorem bytesA (g : Nat) (q : Option Addr) (c : Nat) (b : List UInt8) (p e n : Nat) (w : World) (h : Rdr w g q c b (e, [])) (hB : Bk w g [.slice q b.length c, .int .i64 (p : Int), .int .i64 (e : Int)]) (he : e ≠ 0) :
    Ct Try.prog 73 #[.pointer (some ⟨g, 0, none⟩), .int .i64 (n : Int)] w (TakeP g q c b w ([], (e, []))) := by
  refine Ct.enter [(0, .pointer (some ⟨g, 0, none⟩)), (1, .int .i64 (n : Int))] Try.func73 rfl rfl rfl rfl ?_
  refine C.seq ?_
  refine C.region ?_
  refine W.assign rfl rfl ?_
  refine W.nil ?_
  refine At.thenCode ?_
  refine C.seq ?_
  refine C.seq ?_
  refine C.regionAny 19 ((fun v w => v = .pointer (some ⟨g, 0, none⟩)) :: (fun v w => v = .pointer (some ⟨g, 0, none⟩)) :: (fun v w => v = .pointer (some ⟨g, 2, none⟩)) :: (fun v w => v = .int .i64 (e : Int)) :: (fun v w => v = .bool false) :: (fun v w => v = .bool false) :: (fun v w => v = undef) :: (fun v w => v = undef) :: (fun v w => v = undef) :: (fun v w => v = undef) :: (fun v w => v = undef) :: (fun v w => v = undef) :: (fun v w => v = undef) :: (fun v w => v = undef) :: (fun v w => v = undef) :: (fun v w => v = undef) :: (fun v w => v = undef) :: (fun v w => v = undef) :: (fun v w => v = .bool false) :: []) [(0, .pointer (some ⟨g, 0, none⟩)), (1, .int .i64 (n : Int))] [] (Sub.cons (rfl) (Sub.cons (rfl) (Sub.nil))) (Sub.nil) (Sub.cons (rfl) (Sub.cons (rfl) (Sub.nil))) (by kernel_rfl) rfl rfl rfl (And.intro (fun _ _ _ h _ => h) (And.intro (fun _ _ _ h _ => h) (And.intro (fun _ _ _ h _ => h) (And.intro (fun _ _ _ h _ => h) (And.intro (fun _ _ _ h _ => h) (And.intro (fun _ _ _ h _ => h) (And.intro (fun _ _ _ h _ => h) (And.intro (fun _ _ _ h _ => h) (And.intro (fun _ _ _ h _ => h) (And.intro (fun _ _ _ h _ => h) (And.intro (fun _ _ _ h _ => h) (And.intro (fun _ _ _ h _ => h) (And.intro (fun _ _ _ h _ => h) (And.intro (fun _ _ _ h _ => h) (And.intro (fun _ _ _ h _ => h) (And.intro (fun _ _ _ h _ => h) (And.intro (fun _ _ _ h _ => h) (And.intro (fun _ _ _ h _ => h) (And.intro (fun _ _ _ h _ => h) (trivial)))))))))))))))))))) ?_ ?_
  · refine And.intro ?_ ?_
    · intro L_ w1 hX_ hs_ hf_ hd_
      refine W.step [(0, _)] (Sub.cons (hs_ _ _ rfl) (Sub.refl _)) ?_
      refine W.move rfl rfl ?_
      refine W.nil ?_
      exact At.step (Ext.refl _) rfl
    refine And.intro ?_ ?_
    · intro L_ w1 hX_ hs_ hf_ hd_
      obtain ⟨v0, e0, r0⟩ := hd_ 0 rfl
      obtain rfl : (.pointer (some ⟨g, 0, none⟩) : Value) = v0 := Eq.symm r0
      refine W.step [(5, _)] (Sub.cons (e0 _ rfl) (Sub.refl _)) ?_
      refine W.nilCheck rfl rfl ?_
      refine W.nil ?_
      exact At.step (Ext.refl _) rfl
    refine And.intro ?_ ?_
    · intro L_ w1 hX_ hs_ hf_ hd_
      obtain ⟨v1, e1, r1⟩ := hd_ 1 rfl
      obtain rfl : (.pointer (some ⟨g, 0, none⟩) : Value) = v1 := Eq.symm r1
      refine W.step [(6, _)] (Sub.cons (e1 _ rfl) (Sub.refl _)) ?_
      refine W.fieldB (off := 2) (size := 1) (t := 28) (Fld.of (by kernel_rfl)) rfl rfl rfl ?_
      refine W.nil ?_
      exact At.step (Ext.refl _) rfl
    refine And.intro ?_ ?_
    · intro L_ w1 hX_ hs_ hf_ hd_
      obtain ⟨v2, e2, r2⟩ := hd_ 2 rfl
      obtain rfl : (.pointer (some ⟨g, 2, none⟩) : Value) = v2 := Eq.symm r2
      refine W.step [(7, _)] (Sub.cons (e2 _ rfl) (Sub.refl _)) ?_
      refine W.loadB rfl Try.underlying28 rfl (by first | exact Bk.ext (by assumption) hX_ | exact GP.bkOld hX_ (by assumption) (by omega) (by omega) | exact Bk.chg (by assumption) hX_.1 (by omega) | exact Bk.chg (by assumption) hX_ (by rintro ⟨q_, h1_, h2_, h3_⟩; omega)) rfl rfl ?_
      refine W.nil ?_
      exact At.step (Ext.refl _) rfl
    refine And.intro ?_ ?_
    · intro L_ w1 hX_ hs_ hf_ hd_
      obtain ⟨v3, e3, r3⟩ := hd_ 3 rfl
      obtain rfl : (.int .i64 (e : Int) : Value) = v3 := Eq.symm r3
      refine W.step [(8, _)] (Sub.cons (e3 _ rfl) (Sub.refl _)) ?_
      refine W.eqlI rfl rfl rfl ?_
      refine W.eqv (bF (by omega)) ?_
      refine W.nil ?_
      exact At.step (Ext.refl _) rfl
    refine And.intro ?_ ?_
    · intro L_ w1 hX_ hs_ hf_ hd_
      obtain ⟨v4, e4, r4⟩ := hd_ 4 rfl
      obtain rfl : (.bool false : Value) = v4 := Eq.symm r4
      refine W.step [(9, _)] (Sub.cons (e4 _ rfl) (Sub.refl _)) ?_
      refine W.move rfl rfl ?_
      refine W.nil ?_
      exact At.step (Ext.refl _) rfl
    refine And.intro ?_ ?_
    · intro L_ w1 hX_ hs_ hf_ hd_
      obtain ⟨v5, e5, r5⟩ := hd_ 5 rfl
      obtain rfl : (.bool false : Value) = v5 := Eq.symm r5
      refine W.step [(10, _)] (Sub.cons (e5 _ rfl) (Sub.refl _)) ?_
      refine W.skips rfl rfl rfl rfl rfl rfl ?_
      refine W.nil ?_
      exact At.step (Ext.refl _) rfl
    refine And.intro ?_ ?_
    · intro L_ w1 hX_ hs_ hf_ hd_
      obtain ⟨v5, e5, r5⟩ := hd_ 5 rfl
      obtain rfl : (.bool false : Value) = v5 := Eq.symm r5
      refine W.step [(10, _)] (Sub.cons (e5 _ rfl) (Sub.refl _)) ?_
      refine W.skips rfl rfl rfl rfl rfl rfl ?_
      refine W.nil ?_
      exact At.step (Ext.refl _) rfl
    refine And.intro ?_ ?_
    · intro L_ w1 hX_ hs_ hf_ hd_
      obtain ⟨v5, e5, r5⟩ := hd_ 5 rfl
      obtain rfl : (.bool false : Value) = v5 := Eq.symm r5
      refine W.step [(10, _)] (Sub.cons (e5 _ rfl) (Sub.refl _)) ?_
      refine W.skips rfl rfl rfl rfl rfl rfl ?_
      refine W.nil ?_
      exact At.step (Ext.refl _) rfl
    refine And.intro ?_ ?_
    · intro L_ w1 hX_ hs_ hf_ hd_
      obtain ⟨v5, e5, r5⟩ := hd_ 5 rfl
      obtain rfl : (.bool false : Value) = v5 := Eq.symm r5
      refine W.step [(10, _)] (Sub.cons (e5 _ rfl) (Sub.refl _)) ?_
      refine W.skips rfl rfl rfl rfl rfl rfl ?_
      refine W.nil ?_
      exact At.step (Ext.refl _) rfl
    refine And.intro ?_ ?_
    · intro L_ w1 hX_ hs_ hf_ hd_
      obtain ⟨v5, e5, r5⟩ := hd_ 5 rfl
      obtain rfl : (.bool false : Value) = v5 := Eq.symm r5
      refine W.step [(10, _)] (Sub.cons (e5 _ rfl) (Sub.refl _)) ?_
      refine W.skips rfl rfl rfl rfl rfl rfl ?_
      refine W.nil ?_
      exact At.step (Ext.refl _) rfl
    refine And.intro ?_ ?_
    · intro L_ w1 hX_ hs_ hf_ hd_
      obtain ⟨v5, e5, r5⟩ := hd_ 5 rfl
      obtain rfl : (.bool false : Value) = v5 := Eq.symm r5
      refine W.step [(10, _)] (Sub.cons (e5 _ rfl) (Sub.refl _)) ?_
      refine W.skips rfl rfl rfl rfl rfl rfl ?_
      refine W.nil ?_
      exact At.step (Ext.refl _) rfl
    refine And.intro ?_ ?_
    · intro L_ w1 hX_ hs_ hf_ hd_
      obtain ⟨v5, e5, r5⟩ := hd_ 5 rfl
      obtain rfl : (.bool false : Value) = v5 := Eq.symm r5
      refine W.step [(10, _)] (Sub.cons (e5 _ rfl) (Sub.refl _)) ?_
      refine W.skips rfl rfl rfl rfl rfl rfl ?_
      refine W.nil ?_
      exact At.step (Ext.refl _) rfl
    refine And.intro ?_ ?_
    · intro L_ w1 hX_ hs_ hf_ hd_
      obtain ⟨v5, e5, r5⟩ := hd_ 5 rfl
      obtain rfl : (.bool false : Value) = v5 := Eq.symm r5
      refine W.step [(10, _)] (Sub.cons (e5 _ rfl) (Sub.refl _)) ?_
      refine W.skips rfl rfl rfl rfl rfl rfl ?_
      refine W.nil ?_
      exact At.step (Ext.refl _) rfl
    refine And.intro ?_ ?_
    · intro L_ w1 hX_ hs_ hf_ hd_
      obtain ⟨v5, e5, r5⟩ := hd_ 5 rfl
      obtain rfl : (.bool false : Value) = v5 := Eq.symm r5
      refine W.step [(10, _)] (Sub.cons (e5 _ rfl) (Sub.refl _)) ?_
      refine W.skips rfl rfl rfl rfl rfl rfl ?_
      refine W.nil ?_
      exact At.step (Ext.refl _) rfl
    refine And.intro ?_ ?_
    · intro L_ w1 hX_ hs_ hf_ hd_
      obtain ⟨v5, e5, r5⟩ := hd_ 5 rfl
      obtain rfl : (.bool false : Value) = v5 := Eq.symm r5
      refine W.step [(10, _)] (Sub.cons (e5 _ rfl) (Sub.refl _)) ?_
      refine W.skips rfl rfl rfl rfl rfl rfl ?_
      refine W.nil ?_
      exact At.step (Ext.refl _) rfl
    refine And.intro ?_ ?_
    · intro L_ w1 hX_ hs_ hf_ hd_
      obtain ⟨v5, e5, r5⟩ := hd_ 5 rfl
      obtain rfl : (.bool false : Value) = v5 := Eq.symm r5
      refine W.step [(10, _)] (Sub.cons (e5 _ rfl) (Sub.refl _)) ?_
      refine W.skips rfl rfl rfl rfl rfl rfl ?_
      refine W.nil ?_
      exact At.step (Ext.refl _) rfl
    refine And.intro ?_ ?_
    · intro L_ w1 hX_ hs_ hf_ hd_
      obtain ⟨v5, e5, r5⟩ := hd_ 5 rfl
      obtain rfl : (.bool false : Value) = v5 := Eq.symm r5
      refine W.step [(10, _)] (Sub.cons (e5 _ rfl) (Sub.refl _)) ?_
      refine W.skips rfl rfl rfl rfl rfl rfl ?_
      refine W.nil ?_
      exact At.step (Ext.refl _) rfl
    refine And.intro ?_ ?_
    · intro L_ w1 hX_ hs_ hf_ hd_
      obtain ⟨v5, e5, r5⟩ := hd_ 5 rfl
      obtain rfl : (.bool false : Value) = v5 := Eq.symm r5
      obtain ⟨v17, e17, r17⟩ := hd_ 17 rfl
      obtain rfl : (undef : Value) = v17 := Eq.symm r17
      refine W.step [(10, _), (22, _)] (Sub.cons (e5 _ rfl) (Sub.cons (e17 _ rfl) (Sub.refl _))) ?_
      refine W.pickF rfl rfl rfl ?_
      refine W.nil ?_
      exact At.step (Ext.refl _) rfl
    exact trivial
  · intro L_ w1 hX1 hs_ hv_
    obtain ⟨v18, e18, r18⟩ := hv_ 18 (by decide)
    obtain rfl : (.bool false : Value) = v18 := Eq.symm r18
    refine W.weaken (l' := [(23, _), (0, _), (1, _)]) (Sub.cons (e18 _ rfl) (Sub.cons (hs_ _ _ rfl) (Sub.cons (hs_ _ _ rfl) (Sub.nil)))) ?_
    refine W.nil ?_
    refine At.thenCode ?_
    refine C.condF rfl ?_
    refine C.skip ?_
    refine At.thenCode ?_
    refine C.seq ?_
    refine C.seq ?_
    refine C.region ?_
    refine W.move rfl rfl ?_
    refine W.nilCheck rfl rfl ?_
    refine W.fieldB (off := 2) (size := 1) (t := 28) (Fld.of (by kernel_rfl)) rfl rfl rfl ?_
    have hB1 := hB.ext hX1
    refine W.loadB rfl Try.underlying28 rfl (by assumption) rfl rfl ?_
    refine W.neqI rfl rfl rfl ?_
    refine W.eqv (bT (by omega)) ?_
    refine W.nil ?_
    refine At.thenCode ?_
    refine C.condT rfl ?_
    refine C.seq ?_
    refine C.region ?_
    refine W.assign rfl rfl ?_
    refine W.nil ?_
    refine At.thenCode ?_
    refine C.ret ?_
    refine At.thenRet ?_
    refine At.ret1 Try.results73 rfl ?_
    exact ⟨none, 0, rfl, NewB.nil _ _, ⟨h.ext hX1, Chg.mono hX1 fun k hk => hk.elim⟩⟩
theorem bytesC (g : Nat) (q : Option Addr) (c : Nat) (b : List UInt8) (p n : Nat) (w : World) (h : Rdr w g q c b (0, b.drop p)) (hB : Bk w g [.slice q b.length c, .int .i64 (p : Int), .int .i64 0]) (hp : p ≤ b.length) (hn : n ≤ 1099511627776) (hlen : b.length ≤ 1099511627776) (hs : ¬ p + n ≤ b.length) :
    Ct Try.prog 73 #[.pointer (some ⟨g, 0, none⟩), .int .i64 (n : Int)] w (TakeP g q c b w ([], (4, []))) := by
  refine Ct.enter [(0, .pointer (some ⟨g, 0, none⟩)), (1, .int .i64 (n : Int))] Try.func73 rfl rfl rfl rfl ?_
  refine C.seq ?_
  refine C.region ?_
  refine W.assign rfl rfl ?_
  refine W.nil ?_
  refine At.thenCode ?_
  refine C.seq ?_
  refine C.seq ?_
  refine C.regionAny 19 ((fun v w => v = .pointer (some ⟨g, 0, none⟩)) :: (fun v w => v = .pointer (some ⟨g, 0, none⟩)) :: (fun v w => v = .pointer (some ⟨g, 2, none⟩)) :: (fun v w => v = .int .i64 0) :: (fun v w => v = .bool true) :: (fun v w => v = .bool true) :: (fun v w => v = .pointer (some ⟨g, 0, none⟩)) :: (fun v w => v = .pointer (some ⟨g, 0, none⟩)) :: (fun v w => v = .pointer (some ⟨g, 0, none⟩)) :: (fun v w => v = .slice q b.length c) :: (fun v w => v = .int .i64 (b.length : Int)) :: (fun v w => v = .pointer (some ⟨g, 0, none⟩)) :: (fun v w => v = .pointer (some ⟨g, 0, none⟩)) :: (fun v w => v = .pointer (some ⟨g, 1, none⟩)) :: (fun v w => v = .int .i64 (p : Int)) :: (fun v w => v = .int .i64 ((b.length : Int) - (p : Int))) :: (fun v w => v = .int .i64 (n : Int)) :: (fun v w => v = .bool true) :: (fun v w => v = .bool true) :: []) [(0, .pointer (some ⟨g, 0, none⟩)), (1, .int .i64 (n : Int))] [] (Sub.cons (rfl) (Sub.cons (rfl) (Sub.nil))) (Sub.nil) (Sub.cons (rfl) (Sub.cons (rfl) (Sub.nil))) (by kernel_rfl) rfl rfl rfl (And.intro (fun _ _ _ h _ => h) (And.intro (fun _ _ _ h _ => h) (And.intro (fun _ _ _ h _ => h) (And.intro (fun _ _ _ h _ => h) (And.intro (fun _ _ _ h _ => h) (And.intro (fun _ _ _ h _ => h) (And.intro (fun _ _ _ h _ => h) (And.intro (fun _ _ _ h _ => h) (And.intro (fun _ _ _ h _ => h) (And.intro (fun _ _ _ h _ => h) (And.intro (fun _ _ _ h _ => h) (And.intro (fun _ _ _ h _ => h) (And.intro (fun _ _ _ h _ => h) (And.intro (fun _ _ _ h _ => h) (And.intro (fun _ _ _ h _ => h) (And.intro (fun _ _ _ h _ => h) (And.intro (fun _ _ _ h _ => h) (And.intro (fun _ _ _ h _ => h) (And.intro (fun _ _ _ h _ => h) (trivial)))))))))))))))))))) ?_ ?_
  · refine And.intro ?_ ?_
    · intro L_ w1 hX_ hs_ hf_ hd_
      refine W.step [(0, _)] (Sub.cons (hs_ _ _ rfl) (Sub.refl _)) ?_
      refine W.move rfl rfl ?_
      refine W.nil ?_
      exact At.step (Ext.refl _) rfl
    refine And.intro ?_ ?_
    · intro L_ w1 hX_ hs_ hf_ hd_
      obtain ⟨v0, e0, r0⟩ := hd_ 0 rfl
      obtain rfl : (.pointer (some ⟨g, 0, none⟩) : Value) = v0 := Eq.symm r0
      refine W.step [(5, _)] (Sub.cons (e0 _ rfl) (Sub.refl _)) ?_
      refine W.nilCheck rfl rfl ?_
      refine W.nil ?_
      exact At.step (Ext.refl _) rfl
    refine And.intro ?_ ?_
    · intro L_ w1 hX_ hs_ hf_ hd_
      obtain ⟨v1, e1, r1⟩ := hd_ 1 rfl
      obtain rfl : (.pointer (some ⟨g, 0, none⟩) : Value) = v1 := Eq.symm r1
      refine W.step [(6, _)] (Sub.cons (e1 _ rfl) (Sub.refl _)) ?_
      refine W.fieldB (off := 2) (size := 1) (t := 28) (Fld.of (by kernel_rfl)) rfl rfl rfl ?_
      refine W.nil ?_
      exact At.step (Ext.refl _) rfl
    refine And.intro ?_ ?_
    · intro L_ w1 hX_ hs_ hf_ hd_
      obtain ⟨v2, e2, r2⟩ := hd_ 2 rfl
      obtain rfl : (.pointer (some ⟨g, 2, none⟩) : Value) = v2 := Eq.symm r2
      refine W.step [(7, _)] (Sub.cons (e2 _ rfl) (Sub.refl _)) ?_
      refine W.loadB rfl Try.underlying28 rfl (by first | exact Bk.ext (by assumption) hX_ | exact GP.bkOld hX_ (by assumption) (by omega) (by omega) | exact Bk.chg (by assumption) hX_.1 (by omega) | exact Bk.chg (by assumption) hX_ (by rintro ⟨q_, h1_, h2_, h3_⟩; omega)) rfl rfl ?_
      refine W.nil ?_
      exact At.step (Ext.refl _) rfl
    refine And.intro ?_ ?_
    · intro L_ w1 hX_ hs_ hf_ hd_
      obtain ⟨v3, e3, r3⟩ := hd_ 3 rfl
      obtain rfl : (.int .i64 0 : Value) = v3 := Eq.symm r3
      refine W.step [(8, _)] (Sub.cons (e3 _ rfl) (Sub.refl _)) ?_
      refine W.eqlI rfl rfl rfl ?_
      refine W.eqv (bT (rfl)) ?_
      refine W.nil ?_
      exact At.step (Ext.refl _) rfl
    refine And.intro ?_ ?_
    · intro L_ w1 hX_ hs_ hf_ hd_
      obtain ⟨v4, e4, r4⟩ := hd_ 4 rfl
      obtain rfl : (.bool true : Value) = v4 := Eq.symm r4
      refine W.step [(9, _)] (Sub.cons (e4 _ rfl) (Sub.refl _)) ?_
      refine W.move rfl rfl ?_
      refine W.nil ?_
      exact At.step (Ext.refl _) rfl
    refine And.intro ?_ ?_
    · intro L_ w1 hX_ hs_ hf_ hd_
      obtain ⟨v5, e5, r5⟩ := hd_ 5 rfl
      obtain rfl : (.bool true : Value) = v5 := Eq.symm r5
      refine W.step [(0, _), (10, _)] (Sub.cons (hs_ _ _ rfl) (Sub.cons (e5 _ rfl) (Sub.refl _))) ?_
      refine W.wants rfl rfl rfl rfl ?_
      refine W.move rfl rfl ?_
      refine W.nil ?_
      exact At.step (Ext.refl _) rfl
    refine And.intro ?_ ?_
    · intro L_ w1 hX_ hs_ hf_ hd_
      obtain ⟨v6, e6, r6⟩ := hd_ 6 rfl
      obtain rfl : (.pointer (some ⟨g, 0, none⟩) : Value) = v6 := Eq.symm r6
      obtain ⟨v5, e5, r5⟩ := hd_ 5 rfl
      obtain rfl : (.bool true : Value) = v5 := Eq.symm r5
      refine W.step [(11, _), (10, _)] (Sub.cons (e6 _ rfl) (Sub.cons (e5 _ rfl) (Sub.refl _))) ?_
      refine W.wants rfl rfl rfl rfl ?_
      refine W.nilCheck rfl rfl ?_
      refine W.nil ?_
      exact At.step (Ext.refl _) rfl
    refine And.intro ?_ ?_
    · intro L_ w1 hX_ hs_ hf_ hd_
      obtain ⟨v7, e7, r7⟩ := hd_ 7 rfl
      obtain rfl : (.pointer (some ⟨g, 0, none⟩) : Value) = v7 := Eq.symm r7
      obtain ⟨v5, e5, r5⟩ := hd_ 5 rfl
      obtain rfl : (.bool true : Value) = v5 := Eq.symm r5
      refine W.step [(12, _), (10, _)] (Sub.cons (e7 _ rfl) (Sub.cons (e5 _ rfl) (Sub.refl _))) ?_
      refine W.wants rfl rfl rfl rfl ?_
      refine W.fieldB (off := 0) (size := 1) (t := 51) (Fld.of (by kernel_rfl)) rfl rfl rfl ?_
      refine W.nil ?_
      exact At.step (Ext.refl _) rfl
    refine And.intro ?_ ?_
    · intro L_ w1 hX_ hs_ hf_ hd_
      obtain ⟨v8, e8, r8⟩ := hd_ 8 rfl
      obtain rfl : (.pointer (some ⟨g, 0, none⟩) : Value) = v8 := Eq.symm r8
      obtain ⟨v5, e5, r5⟩ := hd_ 5 rfl
      obtain rfl : (.bool true : Value) = v5 := Eq.symm r5
      refine W.step [(13, _), (10, _)] (Sub.cons (e8 _ rfl) (Sub.cons (e5 _ rfl) (Sub.refl _))) ?_
      refine W.wants rfl rfl rfl rfl ?_
      refine W.loadB rfl Try.underlying51 rfl (by first | exact Bk.ext (by assumption) hX_ | exact GP.bkOld hX_ (by assumption) (by omega) (by omega) | exact Bk.chg (by assumption) hX_.1 (by omega) | exact Bk.chg (by assumption) hX_ (by rintro ⟨q_, h1_, h2_, h3_⟩; omega)) rfl rfl ?_
      refine W.nil ?_
      exact At.step (Ext.refl _) rfl
    refine And.intro ?_ ?_
    · intro L_ w1 hX_ hs_ hf_ hd_
      obtain ⟨v9, e9, r9⟩ := hd_ 9 rfl
      obtain rfl : (.slice q b.length c : Value) = v9 := Eq.symm r9
      obtain ⟨v5, e5, r5⟩ := hd_ 5 rfl
      obtain rfl : (.bool true : Value) = v5 := Eq.symm r5
      refine W.step [(14, _), (10, _)] (Sub.cons (e9 _ rfl) (Sub.cons (e5 _ rfl) (Sub.refl _))) ?_
      refine W.wants rfl rfl rfl rfl ?_
      refine W.lenS rfl Try.underlying51 rfl ?_
      refine W.nil ?_
      exact At.step (Ext.refl _) rfl
    refine And.intro ?_ ?_
    · intro L_ w1 hX_ hs_ hf_ hd_
      obtain ⟨v5, e5, r5⟩ := hd_ 5 rfl
      obtain rfl : (.bool true : Value) = v5 := Eq.symm r5
      refine W.step [(0, _), (10, _)] (Sub.cons (hs_ _ _ rfl) (Sub.cons (e5 _ rfl) (Sub.refl _))) ?_
      refine W.wants rfl rfl rfl rfl ?_
      refine W.move rfl rfl ?_
      refine W.nil ?_
      exact At.step (Ext.refl _) rfl
    refine And.intro ?_ ?_
    · intro L_ w1 hX_ hs_ hf_ hd_
      obtain ⟨v11, e11, r11⟩ := hd_ 11 rfl
      obtain rfl : (.pointer (some ⟨g, 0, none⟩) : Value) = v11 := Eq.symm r11
      obtain ⟨v5, e5, r5⟩ := hd_ 5 rfl
      obtain rfl : (.bool true : Value) = v5 := Eq.symm r5
      refine W.step [(16, _), (10, _)] (Sub.cons (e11 _ rfl) (Sub.cons (e5 _ rfl) (Sub.refl _))) ?_
      refine W.wants rfl rfl rfl rfl ?_
      refine W.nilCheck rfl rfl ?_
      refine W.nil ?_
      exact At.step (Ext.refl _) rfl
    refine And.intro ?_ ?_
    · intro L_ w1 hX_ hs_ hf_ hd_
      obtain ⟨v12, e12, r12⟩ := hd_ 12 rfl
      obtain rfl : (.pointer (some ⟨g, 0, none⟩) : Value) = v12 := Eq.symm r12
      obtain ⟨v5, e5, r5⟩ := hd_ 5 rfl
      obtain rfl : (.bool true : Value) = v5 := Eq.symm r5
      refine W.step [(17, _), (10, _)] (Sub.cons (e12 _ rfl) (Sub.cons (e5 _ rfl) (Sub.refl _))) ?_
      refine W.wants rfl rfl rfl rfl ?_
      refine W.fieldB (off := 1) (size := 1) (t := 3) (Fld.of (by kernel_rfl)) rfl rfl rfl ?_
      refine W.nil ?_
      exact At.step (Ext.refl _) rfl
    refine And.intro ?_ ?_
    · intro L_ w1 hX_ hs_ hf_ hd_
      obtain ⟨v13, e13, r13⟩ := hd_ 13 rfl
      obtain rfl : (.pointer (some ⟨g, 1, none⟩) : Value) = v13 := Eq.symm r13
      obtain ⟨v5, e5, r5⟩ := hd_ 5 rfl
      obtain rfl : (.bool true : Value) = v5 := Eq.symm r5
      refine W.step [(18, _), (10, _)] (Sub.cons (e13 _ rfl) (Sub.cons (e5 _ rfl) (Sub.refl _))) ?_
      refine W.wants rfl rfl rfl rfl ?_
      refine W.loadB rfl Try.underlying3 rfl (by first | exact Bk.ext (by assumption) hX_ | exact GP.bkOld hX_ (by assumption) (by omega) (by omega) | exact Bk.chg (by assumption) hX_.1 (by omega) | exact Bk.chg (by assumption) hX_ (by rintro ⟨q_, h1_, h2_, h3_⟩; omega)) rfl rfl ?_
      refine W.nil ?_
      exact At.step (Ext.refl _) rfl
    refine And.intro ?_ ?_
    · intro L_ w1 hX_ hs_ hf_ hd_
      obtain ⟨v10, e10, r10⟩ := hd_ 10 rfl
      obtain rfl : (.int .i64 (b.length : Int) : Value) = v10 := Eq.symm r10
      obtain ⟨v14, e14, r14⟩ := hd_ 14 rfl
      obtain rfl : (.int .i64 (p : Int) : Value) = v14 := Eq.symm r14
      obtain ⟨v5, e5, r5⟩ := hd_ 5 rfl
      obtain rfl : (.bool true : Value) = v5 := Eq.symm r5
      refine W.step [(15, _), (19, _), (10, _)] (Sub.cons (e10 _ rfl) (Sub.cons (e14 _ rfl) (Sub.cons (e5 _ rfl) (Sub.refl _)))) ?_
      refine W.wants rfl rfl rfl rfl ?_
      first | refine W.subI rfl rfl (by omega) rfl ?_ | refine W.subW rfl rfl rfl ?_
      refine W.nil ?_
      exact At.step (Ext.refl _) rfl
    refine And.intro ?_ ?_
    · intro L_ w1 hX_ hs_ hf_ hd_
      obtain ⟨v5, e5, r5⟩ := hd_ 5 rfl
      obtain rfl : (.bool true : Value) = v5 := Eq.symm r5
      refine W.step [(1, _), (10, _)] (Sub.cons (hs_ _ _ rfl) (Sub.cons (e5 _ rfl) (Sub.refl _))) ?_
      refine W.wants rfl rfl rfl rfl ?_
      refine W.move rfl rfl ?_
      refine W.nil ?_
      exact At.step (Ext.refl _) rfl
    refine And.intro ?_ ?_
    · intro L_ w1 hX_ hs_ hf_ hd_
      obtain ⟨v15, e15, r15⟩ := hd_ 15 rfl
      obtain rfl : (.int .i64 ((b.length : Int) - (p : Int)) : Value) = v15 := Eq.symm r15
      obtain ⟨v16, e16, r16⟩ := hd_ 16 rfl
      obtain rfl : (.int .i64 (n : Int) : Value) = v16 := Eq.symm r16
      obtain ⟨v5, e5, r5⟩ := hd_ 5 rfl
      obtain rfl : (.bool true : Value) = v5 := Eq.symm r5
      refine W.step [(20, _), (21, _), (10, _)] (Sub.cons (e15 _ rfl) (Sub.cons (e16 _ rfl) (Sub.cons (e5 _ rfl) (Sub.refl _)))) ?_
      refine W.wants rfl rfl rfl rfl ?_
      refine W.lssI rfl rfl rfl ?_
      refine W.eqv (bT (by omega)) ?_
      refine W.nil ?_
      exact At.step (Ext.refl _) rfl
    refine And.intro ?_ ?_
    · intro L_ w1 hX_ hs_ hf_ hd_
      obtain ⟨v5, e5, r5⟩ := hd_ 5 rfl
      obtain rfl : (.bool true : Value) = v5 := Eq.symm r5
      obtain ⟨v17, e17, r17⟩ := hd_ 17 rfl
      obtain rfl : (.bool true : Value) = v17 := Eq.symm r17
      refine W.step [(10, _), (22, _)] (Sub.cons (e5 _ rfl) (Sub.cons (e17 _ rfl) (Sub.refl _))) ?_
      refine W.pickT rfl rfl rfl ?_
      refine W.nil ?_
      exact At.step (Ext.refl _) rfl
    exact trivial
  · intro L_ w1 hX1 hs_ hv_
    obtain ⟨v18, e18, r18⟩ := hv_ 18 (by decide)
    obtain rfl : (.bool true : Value) = v18 := Eq.symm r18
    refine W.weaken (l' := [(23, _), (0, _), (1, _)]) (Sub.cons (e18 _ rfl) (Sub.cons (hs_ _ _ rfl) (Sub.cons (hs_ _ _ rfl) (Sub.nil)))) ?_
    refine W.nil ?_
    refine At.thenCode ?_
    refine C.condT rfl ?_
    refine C.region ?_
    refine W.move rfl rfl ?_
    have h1 := h.ext hX1
    refine W.call Try.call81 rfl (Cod.fail_ok _ _ _ _ _ _ _ (by assumption) (by decide) (by decide)) rfl ?_
    rintro v25 w25 ⟨rfl, hP25⟩
    obtain ⟨p2, e2, hB2, _, _, he2⟩ := hP25.rdr.out
    have he4 : e2 = 4 := by have := congrArg Prod.fst he2; exact this.symm
    refine W.nil ?_
    refine At.thenCode ?_
    refine C.seq ?_
    refine C.seq ?_
    refine C.region ?_
    refine W.move rfl rfl ?_
    refine W.nilCheck rfl rfl ?_
    refine W.fieldB (off := 2) (size := 1) (t := 28) (Fld.of (by kernel_rfl)) rfl rfl rfl ?_
    refine W.loadB rfl Try.underlying28 rfl (by assumption) rfl rfl ?_
    refine W.neqI rfl rfl rfl ?_
    refine W.eqv (bT (by omega)) ?_
    refine W.nil ?_
    refine At.thenCode ?_
    refine C.condT rfl ?_
    refine C.seq ?_
    refine C.region ?_
    refine W.assign rfl rfl ?_
    refine W.nil ?_
    refine At.thenCode ?_
    refine C.ret ?_
    refine At.thenRet ?_
    refine At.ret1 Try.results73 rfl ?_
    exact ⟨none, 0, rfl, NewB.nil _ _, ⟨hP25.rdr, (Chg.mono hX1 fun k hk => hk.elim).trans hP25.chg⟩⟩
theorem bytesB (g : Nat) (q : Option Addr) (c : Nat) (b : List UInt8) (p n : Nat) (w : World) (h : Rdr w g q c b (0, b.drop p)) (hB : Bk w g [.slice q b.length c, .int .i64 (p : Int), .int .i64 0]) (hp : p ≤ b.length) (hn : n ≤ 1099511627776) (hlen : b.length ≤ 1099511627776) (hs : p + n ≤ b.length) :
    Ct Try.prog 73 #[.pointer (some ⟨g, 0, none⟩), .int .i64 (n : Int)] w (TakeP g q c b w ((b.drop p).take n, (0, b.drop (p + n)))) := by
  refine Ct.enter [(0, .pointer (some ⟨g, 0, none⟩)), (1, .int .i64 (n : Int))] Try.func73 rfl rfl rfl rfl ?_
  obtain ⟨xs, hxs⟩ : ∃ xs, xs = (b.drop p).take n := ⟨_, rfl⟩
  have hxl : xs.length = n := by rw [hxs, List.length_take, List.length_drop]; omega
  rw [← hxs]
  refine C.seq ?_
  refine C.region ?_
  refine W.assign rfl rfl ?_
  refine W.nil ?_
  refine At.thenCode ?_
  refine C.seq ?_
  refine C.seq ?_
  refine C.regionAny 19 ((fun v w => v = .pointer (some ⟨g, 0, none⟩)) :: (fun v w => v = .pointer (some ⟨g, 0, none⟩)) :: (fun v w => v = .pointer (some ⟨g, 2, none⟩)) :: (fun v w => v = .int .i64 0) :: (fun v w => v = .bool true) :: (fun v w => v = .bool true) :: (fun v w => v = .pointer (some ⟨g, 0, none⟩)) :: (fun v w => v = .pointer (some ⟨g, 0, none⟩)) :: (fun v w => v = .pointer (some ⟨g, 0, none⟩)) :: (fun v w => v = .slice q b.length c) :: (fun v w => v = .int .i64 (b.length : Int)) :: (fun v w => v = .pointer (some ⟨g, 0, none⟩)) :: (fun v w => v = .pointer (some ⟨g, 0, none⟩)) :: (fun v w => v = .pointer (some ⟨g, 1, none⟩)) :: (fun v w => v = .int .i64 (p : Int)) :: (fun v w => v = .int .i64 ((b.length : Int) - (p : Int))) :: (fun v w => v = .int .i64 (n : Int)) :: (fun v w => v = .bool false) :: (fun v w => v = .bool false) :: []) [(0, .pointer (some ⟨g, 0, none⟩)), (1, .int .i64 (n : Int))] [] (Sub.cons (rfl) (Sub.cons (rfl) (Sub.nil))) (Sub.nil) (Sub.cons (rfl) (Sub.cons (rfl) (Sub.nil))) (by kernel_rfl) rfl rfl rfl (And.intro (fun _ _ _ h _ => h) (And.intro (fun _ _ _ h _ => h) (And.intro (fun _ _ _ h _ => h) (And.intro (fun _ _ _ h _ => h) (And.intro (fun _ _ _ h _ => h) (And.intro (fun _ _ _ h _ => h) (And.intro (fun _ _ _ h _ => h) (And.intro (fun _ _ _ h _ => h) (And.intro (fun _ _ _ h _ => h) (And.intro (fun _ _ _ h _ => h) (And.intro (fun _ _ _ h _ => h) (And.intro (fun _ _ _ h _ => h) (And.intro (fun _ _ _ h _ => h) (And.intro (fun _ _ _ h _ => h) (And.intro (fun _ _ _ h _ => h) (And.intro (fun _ _ _ h _ => h) (And.intro (fun _ _ _ h _ => h) (And.intro (fun _ _ _ h _ => h) (And.intro (fun _ _ _ h _ => h) (trivial)))))))))))))))))))) ?_ ?_
  · refine And.intro ?_ ?_
    · intro L_ w1 hX_ hs_ hf_ hd_
      refine W.step [(0, _)] (Sub.cons (hs_ _ _ rfl) (Sub.refl _)) ?_
      refine W.move rfl rfl ?_
      refine W.nil ?_
      exact At.step (Ext.refl _) rfl
    refine And.intro ?_ ?_
    · intro L_ w1 hX_ hs_ hf_ hd_
      obtain ⟨v0, e0, r0⟩ := hd_ 0 rfl
      obtain rfl : (.pointer (some ⟨g, 0, none⟩) : Value) = v0 := Eq.symm r0
      refine W.step [(5, _)] (Sub.cons (e0 _ rfl) (Sub.refl _)) ?_
      refine W.nilCheck rfl rfl ?_
      refine W.nil ?_
      exact At.step (Ext.refl _) rfl
    refine And.intro ?_ ?_
    · intro L_ w1 hX_ hs_ hf_ hd_
      obtain ⟨v1, e1, r1⟩ := hd_ 1 rfl
      obtain rfl : (.pointer (some ⟨g, 0, none⟩) : Value) = v1 := Eq.symm r1
      refine W.step [(6, _)] (Sub.cons (e1 _ rfl) (Sub.refl _)) ?_
      refine W.fieldB (off := 2) (size := 1) (t := 28) (Fld.of (by kernel_rfl)) rfl rfl rfl ?_
      refine W.nil ?_
      exact At.step (Ext.refl _) rfl
    refine And.intro ?_ ?_
    · intro L_ w1 hX_ hs_ hf_ hd_
      obtain ⟨v2, e2, r2⟩ := hd_ 2 rfl
      obtain rfl : (.pointer (some ⟨g, 2, none⟩) : Value) = v2 := Eq.symm r2
      refine W.step [(7, _)] (Sub.cons (e2 _ rfl) (Sub.refl _)) ?_
      refine W.loadB rfl Try.underlying28 rfl (by first | exact Bk.ext (by assumption) hX_ | exact GP.bkOld hX_ (by assumption) (by omega) (by omega) | exact Bk.chg (by assumption) hX_.1 (by omega) | exact Bk.chg (by assumption) hX_ (by rintro ⟨q_, h1_, h2_, h3_⟩; omega)) rfl rfl ?_
      refine W.nil ?_
      exact At.step (Ext.refl _) rfl
    refine And.intro ?_ ?_
    · intro L_ w1 hX_ hs_ hf_ hd_
      obtain ⟨v3, e3, r3⟩ := hd_ 3 rfl
      obtain rfl : (.int .i64 0 : Value) = v3 := Eq.symm r3
      refine W.step [(8, _)] (Sub.cons (e3 _ rfl) (Sub.refl _)) ?_
      refine W.eqlI rfl rfl rfl ?_
      refine W.eqv (bT (rfl)) ?_
      refine W.nil ?_
      exact At.step (Ext.refl _) rfl
    refine And.intro ?_ ?_
    · intro L_ w1 hX_ hs_ hf_ hd_
      obtain ⟨v4, e4, r4⟩ := hd_ 4 rfl
      obtain rfl : (.bool true : Value) = v4 := Eq.symm r4
      refine W.step [(9, _)] (Sub.cons (e4 _ rfl) (Sub.refl _)) ?_
      refine W.move rfl rfl ?_
      refine W.nil ?_
      exact At.step (Ext.refl _) rfl
    refine And.intro ?_ ?_
    · intro L_ w1 hX_ hs_ hf_ hd_
      obtain ⟨v5, e5, r5⟩ := hd_ 5 rfl
      obtain rfl : (.bool true : Value) = v5 := Eq.symm r5
      refine W.step [(0, _), (10, _)] (Sub.cons (hs_ _ _ rfl) (Sub.cons (e5 _ rfl) (Sub.refl _))) ?_
      refine W.wants rfl rfl rfl rfl ?_
      refine W.move rfl rfl ?_
      refine W.nil ?_
      exact At.step (Ext.refl _) rfl
    refine And.intro ?_ ?_
    · intro L_ w1 hX_ hs_ hf_ hd_
      obtain ⟨v6, e6, r6⟩ := hd_ 6 rfl
      obtain rfl : (.pointer (some ⟨g, 0, none⟩) : Value) = v6 := Eq.symm r6
      obtain ⟨v5, e5, r5⟩ := hd_ 5 rfl
      obtain rfl : (.bool true : Value) = v5 := Eq.symm r5
      refine W.step [(11, _), (10, _)] (Sub.cons (e6 _ rfl) (Sub.cons (e5 _ rfl) (Sub.refl _))) ?_
      refine W.wants rfl rfl rfl rfl ?_
      refine W.nilCheck rfl rfl ?_
      refine W.nil ?_
      exact At.step (Ext.refl _) rfl
    refine And.intro ?_ ?_
    · intro L_ w1 hX_ hs_ hf_ hd_
      obtain ⟨v7, e7, r7⟩ := hd_ 7 rfl
      obtain rfl : (.pointer (some ⟨g, 0, none⟩) : Value) = v7 := Eq.symm r7
      obtain ⟨v5, e5, r5⟩ := hd_ 5 rfl
      obtain rfl : (.bool true : Value) = v5 := Eq.symm r5
      refine W.step [(12, _), (10, _)] (Sub.cons (e7 _ rfl) (Sub.cons (e5 _ rfl) (Sub.refl _))) ?_
      refine W.wants rfl rfl rfl rfl ?_
      refine W.fieldB (off := 0) (size := 1) (t := 51) (Fld.of (by kernel_rfl)) rfl rfl rfl ?_
      refine W.nil ?_
      exact At.step (Ext.refl _) rfl
    refine And.intro ?_ ?_
    · intro L_ w1 hX_ hs_ hf_ hd_
      obtain ⟨v8, e8, r8⟩ := hd_ 8 rfl
      obtain rfl : (.pointer (some ⟨g, 0, none⟩) : Value) = v8 := Eq.symm r8
      obtain ⟨v5, e5, r5⟩ := hd_ 5 rfl
      obtain rfl : (.bool true : Value) = v5 := Eq.symm r5
      refine W.step [(13, _), (10, _)] (Sub.cons (e8 _ rfl) (Sub.cons (e5 _ rfl) (Sub.refl _))) ?_
      refine W.wants rfl rfl rfl rfl ?_
      refine W.loadB rfl Try.underlying51 rfl (by first | exact Bk.ext (by assumption) hX_ | exact GP.bkOld hX_ (by assumption) (by omega) (by omega) | exact Bk.chg (by assumption) hX_.1 (by omega) | exact Bk.chg (by assumption) hX_ (by rintro ⟨q_, h1_, h2_, h3_⟩; omega)) rfl rfl ?_
      refine W.nil ?_
      exact At.step (Ext.refl _) rfl
    refine And.intro ?_ ?_
    · intro L_ w1 hX_ hs_ hf_ hd_
      obtain ⟨v9, e9, r9⟩ := hd_ 9 rfl
      obtain rfl : (.slice q b.length c : Value) = v9 := Eq.symm r9
      obtain ⟨v5, e5, r5⟩ := hd_ 5 rfl
      obtain rfl : (.bool true : Value) = v5 := Eq.symm r5
      refine W.step [(14, _), (10, _)] (Sub.cons (e9 _ rfl) (Sub.cons (e5 _ rfl) (Sub.refl _))) ?_
      refine W.wants rfl rfl rfl rfl ?_
      refine W.lenS rfl Try.underlying51 rfl ?_
      refine W.nil ?_
      exact At.step (Ext.refl _) rfl
    refine And.intro ?_ ?_
    · intro L_ w1 hX_ hs_ hf_ hd_
      obtain ⟨v5, e5, r5⟩ := hd_ 5 rfl
      obtain rfl : (.bool true : Value) = v5 := Eq.symm r5
      refine W.step [(0, _), (10, _)] (Sub.cons (hs_ _ _ rfl) (Sub.cons (e5 _ rfl) (Sub.refl _))) ?_
      refine W.wants rfl rfl rfl rfl ?_
      refine W.move rfl rfl ?_
      refine W.nil ?_
      exact At.step (Ext.refl _) rfl
    refine And.intro ?_ ?_
    · intro L_ w1 hX_ hs_ hf_ hd_
      obtain ⟨v11, e11, r11⟩ := hd_ 11 rfl
      obtain rfl : (.pointer (some ⟨g, 0, none⟩) : Value) = v11 := Eq.symm r11
      obtain ⟨v5, e5, r5⟩ := hd_ 5 rfl
      obtain rfl : (.bool true : Value) = v5 := Eq.symm r5
      refine W.step [(16, _), (10, _)] (Sub.cons (e11 _ rfl) (Sub.cons (e5 _ rfl) (Sub.refl _))) ?_
      refine W.wants rfl rfl rfl rfl ?_
      refine W.nilCheck rfl rfl ?_
      refine W.nil ?_
      exact At.step (Ext.refl _) rfl
    refine And.intro ?_ ?_
    · intro L_ w1 hX_ hs_ hf_ hd_
      obtain ⟨v12, e12, r12⟩ := hd_ 12 rfl
      obtain rfl : (.pointer (some ⟨g, 0, none⟩) : Value) = v12 := Eq.symm r12
      obtain ⟨v5, e5, r5⟩ := hd_ 5 rfl
      obtain rfl : (.bool true : Value) = v5 := Eq.symm r5
      refine W.step [(17, _), (10, _)] (Sub.cons (e12 _ rfl) (Sub.cons (e5 _ rfl) (Sub.refl _))) ?_
      refine W.wants rfl rfl rfl rfl ?_
      refine W.fieldB (off := 1) (size := 1) (t := 3) (Fld.of (by kernel_rfl)) rfl rfl rfl ?_
      refine W.nil ?_
      exact At.step (Ext.refl _) rfl
    refine And.intro ?_ ?_
    · intro L_ w1 hX_ hs_ hf_ hd_
      obtain ⟨v13, e13, r13⟩ := hd_ 13 rfl
      obtain rfl : (.pointer (some ⟨g, 1, none⟩) : Value) = v13 := Eq.symm r13
      obtain ⟨v5, e5, r5⟩ := hd_ 5 rfl
      obtain rfl : (.bool true : Value) = v5 := Eq.symm r5
      refine W.step [(18, _), (10, _)] (Sub.cons (e13 _ rfl) (Sub.cons (e5 _ rfl) (Sub.refl _))) ?_
      refine W.wants rfl rfl rfl rfl ?_
      refine W.loadB rfl Try.underlying3 rfl (by first | exact Bk.ext (by assumption) hX_ | exact GP.bkOld hX_ (by assumption) (by omega) (by omega) | exact Bk.chg (by assumption) hX_.1 (by omega) | exact Bk.chg (by assumption) hX_ (by rintro ⟨q_, h1_, h2_, h3_⟩; omega)) rfl rfl ?_
      refine W.nil ?_
      exact At.step (Ext.refl _) rfl
    refine And.intro ?_ ?_
    · intro L_ w1 hX_ hs_ hf_ hd_
      obtain ⟨v10, e10, r10⟩ := hd_ 10 rfl
      obtain rfl : (.int .i64 (b.length : Int) : Value) = v10 := Eq.symm r10
      obtain ⟨v14, e14, r14⟩ := hd_ 14 rfl
      obtain rfl : (.int .i64 (p : Int) : Value) = v14 := Eq.symm r14
      obtain ⟨v5, e5, r5⟩ := hd_ 5 rfl
      obtain rfl : (.bool true : Value) = v5 := Eq.symm r5
      refine W.step [(15, _), (19, _), (10, _)] (Sub.cons (e10 _ rfl) (Sub.cons (e14 _ rfl) (Sub.cons (e5 _ rfl) (Sub.refl _)))) ?_
      refine W.wants rfl rfl rfl rfl ?_
      first | refine W.subI rfl rfl (by omega) rfl ?_ | refine W.subW rfl rfl rfl ?_
      refine W.nil ?_
      exact At.step (Ext.refl _) rfl
    refine And.intro ?_ ?_
    · intro L_ w1 hX_ hs_ hf_ hd_
      obtain ⟨v5, e5, r5⟩ := hd_ 5 rfl
      obtain rfl : (.bool true : Value) = v5 := Eq.symm r5
      refine W.step [(1, _), (10, _)] (Sub.cons (hs_ _ _ rfl) (Sub.cons (e5 _ rfl) (Sub.refl _))) ?_
      refine W.wants rfl rfl rfl rfl ?_
      refine W.move rfl rfl ?_
      refine W.nil ?_
      exact At.step (Ext.refl _) rfl
    refine And.intro ?_ ?_
    · intro L_ w1 hX_ hs_ hf_ hd_
      obtain ⟨v15, e15, r15⟩ := hd_ 15 rfl
      obtain rfl : (.int .i64 ((b.length : Int) - (p : Int)) : Value) = v15 := Eq.symm r15
      obtain ⟨v16, e16, r16⟩ := hd_ 16 rfl
      obtain rfl : (.int .i64 (n : Int) : Value) = v16 := Eq.symm r16
      obtain ⟨v5, e5, r5⟩ := hd_ 5 rfl
      obtain rfl : (.bool true : Value) = v5 := Eq.symm r5
      refine W.step [(20, _), (21, _), (10, _)] (Sub.cons (e15 _ rfl) (Sub.cons (e16 _ rfl) (Sub.cons (e5 _ rfl) (Sub.refl _)))) ?_
      refine W.wants rfl rfl rfl rfl ?_
      refine W.lssI rfl rfl rfl ?_
      refine W.eqv (bF (by omega)) ?_
      refine W.nil ?_
      exact At.step (Ext.refl _) rfl
    refine And.intro ?_ ?_
    · intro L_ w1 hX_ hs_ hf_ hd_
      obtain ⟨v5, e5, r5⟩ := hd_ 5 rfl
      obtain rfl : (.bool true : Value) = v5 := Eq.symm r5
      obtain ⟨v17, e17, r17⟩ := hd_ 17 rfl
      obtain rfl : (.bool false : Value) = v17 := Eq.symm r17
      refine W.step [(10, _), (22, _)] (Sub.cons (e5 _ rfl) (Sub.cons (e17 _ rfl) (Sub.refl _))) ?_
      refine W.pickT rfl rfl rfl ?_
      refine W.nil ?_
      exact At.step (Ext.refl _) rfl
    exact trivial
  · intro L_ w1 hX1 hs_ hv_
    obtain ⟨v18, e18, r18⟩ := hv_ 18 (by decide)
    obtain rfl : (.bool false : Value) = v18 := Eq.symm r18
    refine W.weaken (l' := [(23, _), (0, _), (1, _)]) (Sub.cons (e18 _ rfl) (Sub.cons (hs_ _ _ rfl) (Sub.cons (hs_ _ _ rfl) (Sub.nil)))) ?_
    refine W.nil ?_
    refine At.thenCode ?_
    refine C.condF rfl ?_
    refine C.skip ?_
    refine At.thenCode ?_
    refine C.seq ?_
    refine C.seq ?_
    refine C.region ?_
    refine W.move rfl rfl ?_
    refine W.nilCheck rfl rfl ?_
    refine W.fieldB (off := 2) (size := 1) (t := 28) (Fld.of (by kernel_rfl)) rfl rfl rfl ?_
    have h1 := h.ext hX1
    have hB1 := hB.ext hX1
    refine W.loadB rfl Try.underlying28 rfl (by assumption) rfl rfl ?_
    refine W.neqI rfl rfl rfl ?_
    refine W.eqv (bF (by omega)) ?_
    refine W.nil ?_
    refine At.thenCode ?_
    refine C.condF rfl ?_
    refine C.skip ?_
    refine At.thenCode ?_
    refine C.seq ?_
    refine C.region ?_
    refine W.move rfl rfl ?_
    refine W.nilCheck rfl rfl ?_
    refine W.fieldB (off := 1) (size := 1) (t := 3) (Fld.of (by kernel_rfl)) rfl rfl rfl ?_
    refine W.loadB rfl Try.underlying3 rfl (by assumption) rfl rfl ?_
    refine W.move rfl rfl ?_
    first | refine W.addI rfl rfl (by omega) rfl ?_ | refine W.addW rfl rfl rfl ?_
    refine W.nilCheck rfl rfl ?_
    refine W.fieldB (off := 1) (size := 1) (t := 3) (Fld.of (by kernel_rfl)) rfl rfl rfl ?_
    refine W.store1 rfl rfl rfl hB1 (by simp) (by kernel_rfl) ?_
    intro w5 hc5 hB5
    have hB5 : Bk w5 g [.slice q b.length c, .int .i64 ((p + n : Nat) : Int), .int .i64 0] := by simpa using hB5
    have hP5 := h1.set (p := p + n) (e := 0) hc5 hB5 (by omega) (by decide)
    refine W.nil ?_
    refine At.thenCode ?_
    refine C.seq ?_
    refine C.regionAny 15 ((fun v w => v = .pointer (some ⟨g, 0, none⟩)) :: (fun v w => v = .pointer (some ⟨g, 0, none⟩)) :: (fun v w => v = .pointer (some ⟨g, 0, none⟩)) :: (fun v w => v = .slice q b.length c) :: (fun v w => v = .pointer (some ⟨g, 0, none⟩)) :: (fun v w => v = .pointer (some ⟨g, 0, none⟩)) :: (fun v w => v = .pointer (some ⟨g, 1, none⟩)) :: (fun v w => v = .int .i64 ((p + n : Nat) : Int)) :: (fun v w => v = .int .i64 (n : Int)) :: (fun v w => v = .int .i64 (((p + n : Nat) : Int) - (n : Int))) :: (fun v w => v = .pointer (some ⟨g, 0, none⟩)) :: (fun v w => v = .pointer (some ⟨g, 0, none⟩)) :: (fun v w => v = .pointer (some ⟨g, 1, none⟩)) :: (fun v w => v = .int .i64 ((p + n : Nat) : Int)) :: (fun v w => Rep w v xs) :: []) [(0, .pointer (some ⟨g, 0, none⟩)), (1, .int .i64 (n : Int))] [] (Sub.cons (rfl) (Sub.cons (rfl) (Sub.nil))) (Sub.nil) (Sub.cons (rfl) (Sub.cons (rfl) (Sub.nil))) (by kernel_rfl) rfl rfl rfl (And.intro (fun _ _ _ h _ => h) (And.intro (fun _ _ _ h _ => h) (And.intro (fun _ _ _ h _ => h) (And.intro (fun _ _ _ h _ => h) (And.intro (fun _ _ _ h _ => h) (And.intro (fun _ _ _ h _ => h) (And.intro (fun _ _ _ h _ => h) (And.intro (fun _ _ _ h _ => h) (And.intro (fun _ _ _ h _ => h) (And.intro (fun _ _ _ h _ => h) (And.intro (fun _ _ _ h _ => h) (And.intro (fun _ _ _ h _ => h) (And.intro (fun _ _ _ h _ => h) (And.intro (fun _ _ _ h _ => h) (And.intro (fun _ _ _ h g => h.ext g) (trivial)))))))))))))))) ?_ ?_
    · refine And.intro ?_ ?_
      · intro L_ w6 hX_ hs_ hf_ hd_
        refine W.step [(0, _)] (Sub.cons (hs_ _ _ rfl) (Sub.refl _)) ?_
        refine W.move rfl rfl ?_
        refine W.nil ?_
        exact At.step (Ext.refl _) rfl
      refine And.intro ?_ ?_
      · intro L_ w6 hX_ hs_ hf_ hd_
        obtain ⟨v0, e0, r0⟩ := hd_ 0 rfl
        obtain rfl : (.pointer (some ⟨g, 0, none⟩) : Value) = v0 := Eq.symm r0
        refine W.step [(39, _)] (Sub.cons (e0 _ rfl) (Sub.refl _)) ?_
        refine W.nilCheck rfl rfl ?_
        refine W.nil ?_
        exact At.step (Ext.refl _) rfl
      refine And.intro ?_ ?_
      · intro L_ w6 hX_ hs_ hf_ hd_
        obtain ⟨v1, e1, r1⟩ := hd_ 1 rfl
        obtain rfl : (.pointer (some ⟨g, 0, none⟩) : Value) = v1 := Eq.symm r1
        refine W.step [(40, _)] (Sub.cons (e1 _ rfl) (Sub.refl _)) ?_
        refine W.fieldB (off := 0) (size := 1) (t := 51) (Fld.of (by kernel_rfl)) rfl rfl rfl ?_
        refine W.nil ?_
        exact At.step (Ext.refl _) rfl
      refine And.intro ?_ ?_
      · intro L_ w6 hX_ hs_ hf_ hd_
        obtain ⟨v2, e2, r2⟩ := hd_ 2 rfl
        obtain rfl : (.pointer (some ⟨g, 0, none⟩) : Value) = v2 := Eq.symm r2
        refine W.step [(41, _)] (Sub.cons (e2 _ rfl) (Sub.refl _)) ?_
        refine W.loadB rfl Try.underlying51 rfl (by first | exact Bk.ext (by assumption) hX_ | exact GP.bkOld hX_ (by assumption) (by omega) (by omega) | exact Bk.chg (by assumption) hX_.1 (by omega) | exact Bk.chg (by assumption) hX_ (by rintro ⟨q_, h1_, h2_, h3_⟩; omega)) rfl rfl ?_
        refine W.nil ?_
        exact At.step (Ext.refl _) rfl
      refine And.intro ?_ ?_
      · intro L_ w6 hX_ hs_ hf_ hd_
        refine W.step [(0, _)] (Sub.cons (hs_ _ _ rfl) (Sub.refl _)) ?_
        refine W.move rfl rfl ?_
        refine W.nil ?_
        exact At.step (Ext.refl _) rfl
      refine And.intro ?_ ?_
      · intro L_ w6 hX_ hs_ hf_ hd_
        obtain ⟨v4, e4, r4⟩ := hd_ 4 rfl
        obtain rfl : (.pointer (some ⟨g, 0, none⟩) : Value) = v4 := Eq.symm r4
        refine W.step [(43, _)] (Sub.cons (e4 _ rfl) (Sub.refl _)) ?_
        refine W.nilCheck rfl rfl ?_
        refine W.nil ?_
        exact At.step (Ext.refl _) rfl
      refine And.intro ?_ ?_
      · intro L_ w6 hX_ hs_ hf_ hd_
        obtain ⟨v5, e5, r5⟩ := hd_ 5 rfl
        obtain rfl : (.pointer (some ⟨g, 0, none⟩) : Value) = v5 := Eq.symm r5
        refine W.step [(44, _)] (Sub.cons (e5 _ rfl) (Sub.refl _)) ?_
        refine W.fieldB (off := 1) (size := 1) (t := 3) (Fld.of (by kernel_rfl)) rfl rfl rfl ?_
        refine W.nil ?_
        exact At.step (Ext.refl _) rfl
      refine And.intro ?_ ?_
      · intro L_ w6 hX_ hs_ hf_ hd_
        obtain ⟨v6, e6, r6⟩ := hd_ 6 rfl
        obtain rfl : (.pointer (some ⟨g, 1, none⟩) : Value) = v6 := Eq.symm r6
        refine W.step [(45, _)] (Sub.cons (e6 _ rfl) (Sub.refl _)) ?_
        refine W.loadB rfl Try.underlying3 rfl (by first | exact Bk.ext (by assumption) hX_ | exact GP.bkOld hX_ (by assumption) (by omega) (by omega) | exact Bk.chg (by assumption) hX_.1 (by omega) | exact Bk.chg (by assumption) hX_ (by rintro ⟨q_, h1_, h2_, h3_⟩; omega)) rfl rfl ?_
        refine W.nil ?_
        exact At.step (Ext.refl _) rfl
      refine And.intro ?_ ?_
      · intro L_ w6 hX_ hs_ hf_ hd_
        refine W.step [(1, _)] (Sub.cons (hs_ _ _ rfl) (Sub.refl _)) ?_
        refine W.move rfl rfl ?_
        refine W.nil ?_
        exact At.step (Ext.refl _) rfl
      refine And.intro ?_ ?_
      · intro L_ w6 hX_ hs_ hf_ hd_
        obtain ⟨v7, e7, r7⟩ := hd_ 7 rfl
        obtain rfl : (.int .i64 ((p + n : Nat) : Int) : Value) = v7 := Eq.symm r7
        obtain ⟨v8, e8, r8⟩ := hd_ 8 rfl
        obtain rfl : (.int .i64 (n : Int) : Value) = v8 := Eq.symm r8
        refine W.step [(46, _), (47, _)] (Sub.cons (e7 _ rfl) (Sub.cons (e8 _ rfl) (Sub.refl _))) ?_
        first | refine W.subI rfl rfl (by omega) rfl ?_ | refine W.subW rfl rfl rfl ?_
        refine W.nil ?_
        exact At.step (Ext.refl _) rfl
      refine And.intro ?_ ?_
      · intro L_ w6 hX_ hs_ hf_ hd_
        refine W.step [(0, _)] (Sub.cons (hs_ _ _ rfl) (Sub.refl _)) ?_
        refine W.move rfl rfl ?_
        refine W.nil ?_
        exact At.step (Ext.refl _) rfl
      refine And.intro ?_ ?_
      · intro L_ w6 hX_ hs_ hf_ hd_
        obtain ⟨v10, e10, r10⟩ := hd_ 10 rfl
        obtain rfl : (.pointer (some ⟨g, 0, none⟩) : Value) = v10 := Eq.symm r10
        refine W.step [(49, _)] (Sub.cons (e10 _ rfl) (Sub.refl _)) ?_
        refine W.nilCheck rfl rfl ?_
        refine W.nil ?_
        exact At.step (Ext.refl _) rfl
      refine And.intro ?_ ?_
      · intro L_ w6 hX_ hs_ hf_ hd_
        obtain ⟨v11, e11, r11⟩ := hd_ 11 rfl
        obtain rfl : (.pointer (some ⟨g, 0, none⟩) : Value) = v11 := Eq.symm r11
        refine W.step [(50, _)] (Sub.cons (e11 _ rfl) (Sub.refl _)) ?_
        refine W.fieldB (off := 1) (size := 1) (t := 3) (Fld.of (by kernel_rfl)) rfl rfl rfl ?_
        refine W.nil ?_
        exact At.step (Ext.refl _) rfl
      refine And.intro ?_ ?_
      · intro L_ w6 hX_ hs_ hf_ hd_
        obtain ⟨v12, e12, r12⟩ := hd_ 12 rfl
        obtain rfl : (.pointer (some ⟨g, 1, none⟩) : Value) = v12 := Eq.symm r12
        refine W.step [(51, _)] (Sub.cons (e12 _ rfl) (Sub.refl _)) ?_
        refine W.loadB rfl Try.underlying3 rfl (by first | exact Bk.ext (by assumption) hX_ | exact GP.bkOld hX_ (by assumption) (by omega) (by omega) | exact Bk.chg (by assumption) hX_.1 (by omega) | exact Bk.chg (by assumption) hX_ (by rintro ⟨q_, h1_, h2_, h3_⟩; omega)) rfl rfl ?_
        refine W.nil ?_
        exact At.step (Ext.refl _) rfl
      refine And.intro ?_ ?_
      · intro L_ w6 hX_ hs_ hf_ hd_
        obtain ⟨v3, e3, r3⟩ := hd_ 3 rfl
        obtain rfl : (.slice q b.length c : Value) = v3 := Eq.symm r3
        obtain ⟨v9, e9, r9⟩ := hd_ 9 rfl
        obtain rfl : (.int .i64 (((p + n : Nat) : Int) - (n : Int)) : Value) = v9 := Eq.symm r9
        obtain ⟨v13, e13, r13⟩ := hd_ 13 rfl
        obtain rfl : (.int .i64 ((p + n : Nat) : Int) : Value) = v13 := Eq.symm r13
        refine W.step [(42, _), (48, _), (52, _)] (Sub.cons (e3 _ rfl) (Sub.cons (e9 _ rfl) (Sub.cons (e13 _ rfl) (Sub.refl _)))) ?_
        have hb5 := hP5.rdr.bs.ext hX_
        refine W.slice (lo := p) (hi := p + n) E8 Try.underlying51 rfl hb5 (.inr ⟨_, _, rfl, look_eq rfl (iV (by omega))⟩) (.inr ⟨_, _, rfl, rfl⟩) (by omega) (by omega) rfl ?_
        intro ao2 c2 hS2 _
        rw [show p + n - p = n by omega, Nat.mul_one, Nat.mul_one, ← List.map_drop, ← List.map_take, ← hxs] at hS2
        rw [show p + n - p = n by omega]
        have hrep : Rep w6 (.slice ao2 n c2) xs := ⟨ao2, c2, by rw [hxl], by show Sl _ _ _ _ _ _; rw [hxl]; exact hS2⟩
        refine W.nil ?_
        exact At.step (Ext.refl _) hrep
      exact trivial
    · intro L_ w6 hX6 hs_ hv_
      obtain ⟨v14, e14, r14⟩ := hv_ 14 (by decide)
      obtain ⟨a14, c14, rfl, hs14⟩ := r14
      refine W.weaken (l' := [(53, _), (0, _), (1, _)]) (Sub.cons (e14 _ rfl) (Sub.cons (hs_ _ _ rfl) (Sub.cons (hs_ _ _ rfl) (Sub.nil)))) ?_
      refine W.appendB (ys := xs) E8 Try.underlying51 rfl rfl (Ow.nil _ w6.heap.size 5) hs14 (by simp; omega) (Nat.le_refl _) rfl ?_
      rw [List.nil_append]
      intro v54 w54 ho54 hg54 _
      have hX54 : Ext w6 w54 := (Chg.of_grown hg54).mono fun k hk => by cases hk
      obtain ⟨aR, cR, rfl, hSR, hbR⟩ := ownsRow_form ho54
      refine W.assign rfl rfl ?_
      refine W.nil ?_
      refine At.thenCode ?_
      refine C.ret ?_
      refine At.ret1 Try.results73 rfl ?_
      have hr5 := hP5.rdr
      refine ⟨aR, cR, rfl, ⟨hSR, fun ad ea _ => ?_⟩, ⟨?_, ?_⟩⟩
      · have := hbR ad ea; have := hX1.size; have := hc5.size; have := hX6.size; omega
      · have := (hr5.ext hX6).ext hX54
        simpa using this
      · exact ((Chg.mono hX1 fun k hk => hk.elim).trans hc5).trans (Chg.mono (hX6.ext hX54) fun k hk => hk.elim)
theorem rbytes_ok (g : Nat) (q : Option Addr) (c : Nat) (b : List UInt8) (s : St) (n : Nat) (w : World) (h : Rdr w g q c b s) (hlen : b.length ≤ 1099511627776) (hn : n ≤ 1099511627776) :
    Ct Try.prog 73 #[.pointer (some ⟨g, 0, none⟩), .int .i64 (n : Int)] w (TakeP g q c b w (takeS n s)) := by
  obtain ⟨p, e, hB, hp, he, rfl⟩ := h.out
  by_cases h0 : e = 0
  · subst h0
    rw [if_pos rfl] at h ⊢
    by_cases hs : p + n ≤ b.length
    · rw [takeS_at hp hs]
      exact bytesB g q c b p n w h hB hp hn hlen hs
    · rw [takeS_short hp hs]
      exact bytesC g q c b p n w h hB hp hn hlen hs
  · rw [if_neg h0] at h ⊢
    rw [takeS_bad (show (e, ([] : List UInt8)).1 ≠ 0 from h0)]
    exact bytesA g q c b p e n w h hB h0
theorem over_ok (g : Nat) (q : Option Addr) (c : Nat) (b : List UInt8) (s : St) (w : World) (h : Rdr w g q c b s) (hlen : b.length ≤ 1099511627776) :
    Ct Try.prog 74 #[.pointer (some ⟨g, 0, none⟩)] w (fun v w' => v = .int .i64 (overS s : Int) ∧ Chg (fun k => k = g) w w') := by
  refine Ct.enter [(0, .pointer (some ⟨g, 0, none⟩))] Try.func74 rfl rfl rfl rfl ?_
  obtain ⟨p, e, hB, hp, he, rfl⟩ := h.out
  refine C.seq ?_
  refine C.region ?_
  refine W.assign rfl rfl ?_
  refine W.nil ?_
  refine At.thenCode ?_
  refine C.seq ?_
  refine C.seq ?_
  refine C.regionAny 10 ((fun v w => v = .pointer (some ⟨g, 0, none⟩)) :: (fun v w => v = .pointer (some ⟨g, 0, none⟩)) :: (fun v w => v = .pointer (some ⟨g, 1, none⟩)) :: (fun v w => v = .int .i64 (p : Int)) :: (fun v w => v = .pointer (some ⟨g, 0, none⟩)) :: (fun v w => v = .pointer (some ⟨g, 0, none⟩)) :: (fun v w => v = .pointer (some ⟨g, 0, none⟩)) :: (fun v w => v = .slice q b.length c) :: (fun v w => v = .int .i64 (b.length : Int)) :: (fun v w => v = .bool (decide ((p : Int) < (b.length : Int)))) :: []) [(0, .pointer (some ⟨g, 0, none⟩))] [] (Sub.cons (rfl) (Sub.nil)) (Sub.nil) (Sub.cons (rfl) (Sub.nil)) (by kernel_rfl) rfl rfl rfl (And.intro (fun _ _ _ h _ => h) (And.intro (fun _ _ _ h _ => h) (And.intro (fun _ _ _ h _ => h) (And.intro (fun _ _ _ h _ => h) (And.intro (fun _ _ _ h _ => h) (And.intro (fun _ _ _ h _ => h) (And.intro (fun _ _ _ h _ => h) (And.intro (fun _ _ _ h _ => h) (And.intro (fun _ _ _ h _ => h) (And.intro (fun _ _ _ h _ => h) (trivial))))))))))) ?_ ?_
  · refine And.intro ?_ ?_
    · intro L_ w1 hX_ hs_ hf_ hd_
      refine W.step [(0, _)] (Sub.cons (hs_ _ _ rfl) (Sub.refl _)) ?_
      refine W.move rfl rfl ?_
      refine W.nil ?_
      exact At.step (Ext.refl _) rfl
    refine And.intro ?_ ?_
    · intro L_ w1 hX_ hs_ hf_ hd_
      obtain ⟨v0, e0, r0⟩ := hd_ 0 rfl
      obtain rfl : (.pointer (some ⟨g, 0, none⟩) : Value) = v0 := Eq.symm r0
      refine W.step [(3, _)] (Sub.cons (e0 _ rfl) (Sub.refl _)) ?_
      refine W.nilCheck rfl rfl ?_
      refine W.nil ?_
      exact At.step (Ext.refl _) rfl
    refine And.intro ?_ ?_
    · intro L_ w1 hX_ hs_ hf_ hd_
      obtain ⟨v1, e1, r1⟩ := hd_ 1 rfl
      obtain rfl : (.pointer (some ⟨g, 0, none⟩) : Value) = v1 := Eq.symm r1
      refine W.step [(4, _)] (Sub.cons (e1 _ rfl) (Sub.refl _)) ?_
      refine W.fieldB (off := 1) (size := 1) (t := 3) (Fld.of (by kernel_rfl)) rfl rfl rfl ?_
      refine W.nil ?_
      exact At.step (Ext.refl _) rfl
    refine And.intro ?_ ?_
    · intro L_ w1 hX_ hs_ hf_ hd_
      obtain ⟨v2, e2, r2⟩ := hd_ 2 rfl
      obtain rfl : (.pointer (some ⟨g, 1, none⟩) : Value) = v2 := Eq.symm r2
      refine W.step [(5, _)] (Sub.cons (e2 _ rfl) (Sub.refl _)) ?_
      refine W.loadB rfl Try.underlying3 rfl (by first | exact Bk.ext (by assumption) hX_ | exact GP.bkOld hX_ (by assumption) (by omega) (by omega) | exact Bk.chg (by assumption) hX_.1 (by omega) | exact Bk.chg (by assumption) hX_ (by rintro ⟨q_, h1_, h2_, h3_⟩; omega)) rfl rfl ?_
      refine W.nil ?_
      exact At.step (Ext.refl _) rfl
    refine And.intro ?_ ?_
    · intro L_ w1 hX_ hs_ hf_ hd_
      refine W.step [(0, _)] (Sub.cons (hs_ _ _ rfl) (Sub.refl _)) ?_
      refine W.move rfl rfl ?_
      refine W.nil ?_
      exact At.step (Ext.refl _) rfl
    refine And.intro ?_ ?_
    · intro L_ w1 hX_ hs_ hf_ hd_
      obtain ⟨v4, e4, r4⟩ := hd_ 4 rfl
      obtain rfl : (.pointer (some ⟨g, 0, none⟩) : Value) = v4 := Eq.symm r4
      refine W.step [(7, _)] (Sub.cons (e4 _ rfl) (Sub.refl _)) ?_
      refine W.nilCheck rfl rfl ?_
      refine W.nil ?_
      exact At.step (Ext.refl _) rfl
    refine And.intro ?_ ?_
    · intro L_ w1 hX_ hs_ hf_ hd_
      obtain ⟨v5, e5, r5⟩ := hd_ 5 rfl
      obtain rfl : (.pointer (some ⟨g, 0, none⟩) : Value) = v5 := Eq.symm r5
      refine W.step [(8, _)] (Sub.cons (e5 _ rfl) (Sub.refl _)) ?_
      refine W.fieldB (off := 0) (size := 1) (t := 51) (Fld.of (by kernel_rfl)) rfl rfl rfl ?_
      refine W.nil ?_
      exact At.step (Ext.refl _) rfl
    refine And.intro ?_ ?_
    · intro L_ w1 hX_ hs_ hf_ hd_
      obtain ⟨v6, e6, r6⟩ := hd_ 6 rfl
      obtain rfl : (.pointer (some ⟨g, 0, none⟩) : Value) = v6 := Eq.symm r6
      refine W.step [(9, _)] (Sub.cons (e6 _ rfl) (Sub.refl _)) ?_
      refine W.loadB rfl Try.underlying51 rfl (by first | exact Bk.ext (by assumption) hX_ | exact GP.bkOld hX_ (by assumption) (by omega) (by omega) | exact Bk.chg (by assumption) hX_.1 (by omega) | exact Bk.chg (by assumption) hX_ (by rintro ⟨q_, h1_, h2_, h3_⟩; omega)) rfl rfl ?_
      refine W.nil ?_
      exact At.step (Ext.refl _) rfl
    refine And.intro ?_ ?_
    · intro L_ w1 hX_ hs_ hf_ hd_
      obtain ⟨v7, e7, r7⟩ := hd_ 7 rfl
      obtain rfl : (.slice q b.length c : Value) = v7 := Eq.symm r7
      refine W.step [(10, _)] (Sub.cons (e7 _ rfl) (Sub.refl _)) ?_
      refine W.lenS rfl Try.underlying51 rfl ?_
      refine W.nil ?_
      exact At.step (Ext.refl _) rfl
    refine And.intro ?_ ?_
    · intro L_ w1 hX_ hs_ hf_ hd_
      obtain ⟨v3, e3, r3⟩ := hd_ 3 rfl
      obtain rfl : (.int .i64 (p : Int) : Value) = v3 := Eq.symm r3
      obtain ⟨v8, e8, r8⟩ := hd_ 8 rfl
      obtain rfl : (.int .i64 (b.length : Int) : Value) = v8 := Eq.symm r8
      refine W.step [(6, _), (11, _)] (Sub.cons (e3 _ rfl) (Sub.cons (e8 _ rfl) (Sub.refl _))) ?_
      refine W.lssI rfl rfl rfl ?_
      refine W.nil ?_
      exact At.step (Ext.refl _) rfl
    exact trivial
  · intro L_ w1 hX1 hs_ hv_
    obtain ⟨v9, e9, r9⟩ := hv_ 9 (by decide)
    obtain rfl : (.bool (decide ((p : Int) < (b.length : Int))) : Value) = v9 := Eq.symm r9
    refine W.weaken (l' := [(12, _), (0, _)]) (Sub.cons (e9 _ rfl) (Sub.cons (hs_ _ _ rfl) (Sub.nil))) ?_
    refine W.nil ?_
    refine At.thenCode ?_
    first | refine C.condD rfl (fun c12 => ?_) (fun c12 => ?_) | refine C.cond rfl (fun c12 => ?_) (fun c12 => ?_)
    · have h1 := h.ext hX1
      refine C.region ?_
      refine W.move rfl rfl ?_
      refine W.call Try.call81 rfl (Cod.fail_ok _ _ _ _ _ _ _ (by assumption) (by decide) (by decide)) rfl ?_
      rintro v14 w14 ⟨rfl, hP14⟩
      obtain ⟨p2, e2, hB2, _, _, he2⟩ := hP14.rdr.out
      have he3 := congrArg Prod.fst he2
      refine W.nil ?_
      refine At.thenCode ?_
      refine C.seq ?_
      refine C.region ?_
      refine W.move rfl rfl ?_
      refine W.nilCheck rfl rfl ?_
      refine W.fieldB (off := 2) (size := 1) (t := 28) (Fld.of (by kernel_rfl)) rfl rfl rfl ?_
      refine W.loadB rfl Try.underlying28 rfl (by assumption) rfl rfl ?_
      refine W.assign rfl rfl ?_
      refine W.nil ?_
      refine At.thenCode ?_
      refine C.ret ?_
      refine At.ret1 Try.results74 rfl ?_
      first
      | (refine ⟨?_, (Chg.mono hX1 fun k hk => hk.elim).trans hP14.chg⟩
         rw [failS_cases 2 e (b.drop p) (by decide)] at he3
         have he3 : (if e = 0 then 2 else e) = e2 := he3
         rw [← he3]
         unfold overS
         by_cases h0 : e = 0
         · subst h0
           have hne : b.drop p ≠ [] := by intro hc; have := congrArg List.length hc; rw [List.length_drop] at this; simp at this; omega
           simp [hne]
         · simp [h0])
      | (refine ⟨?_, Chg.mono hX1 fun k hk => hk.elim⟩
         unfold overS
         by_cases h0 : e = 0
         · subst h0
           have hne : b.drop p = [] := List.drop_of_length_le (by omega)
           simp [hne]
         · simp [h0])
    · have hB1 := hB.ext hX1
      refine C.skip ?_
      refine At.thenCode ?_
      refine C.seq ?_
      refine C.region ?_
      refine W.move rfl rfl ?_
      refine W.nilCheck rfl rfl ?_
      refine W.fieldB (off := 2) (size := 1) (t := 28) (Fld.of (by kernel_rfl)) rfl rfl rfl ?_
      refine W.loadB rfl Try.underlying28 rfl (by assumption) rfl rfl ?_
      refine W.assign rfl rfl ?_
      refine W.nil ?_
      refine At.thenCode ?_
      refine C.ret ?_
      refine At.ret1 Try.results74 rfl ?_
      first
      | (refine ⟨?_, (Chg.mono hX1 fun k hk => hk.elim).trans hP14.chg⟩
         rw [failS_cases 2 e (b.drop p) (by decide)] at he3
         have he3 : (if e = 0 then 2 else e) = e2 := he3
         rw [← he3]
         unfold overS
         by_cases h0 : e = 0
         · subst h0
           have hne : b.drop p ≠ [] := by intro hc; have := congrArg List.length hc; rw [List.length_drop] at this; simp at this; omega
           simp [hne]
         · simp [h0])
      | (refine ⟨?_, Chg.mono hX1 fun k hk => hk.elim⟩
         unfold overS
         by_cases h0 : e = 0
         · subst h0
           have hne : b.drop p = [] := List.drop_of_length_le (by omega)
           simp [hne]
         · simp [h0])
theorem list_ok (g : Nat) (q : Option Addr) (c : Nat) (b : List UInt8) (s : St) (m : Nat) (w : World) (h : Rdr w g q c b s) (hlen : b.length ≤ 1099511627776) (hm : m ≤ 9223372036854775807) :
    Ct Try.prog 71 #[.pointer (some ⟨g, 0, none⟩), .int .i64 (m : Int)] w (fun v w' => v = .tuple #[.int .i64 ((intS m s).1 : Int), .int .i64 ((sizeS (intS m s).1 (intS m s).2).1 : Int)] ∧ RdP w g q c b (sizeS (intS m s).1 (intS m s).2).2 w') := by
  refine Ct.enter [(0, .pointer (some ⟨g, 0, none⟩)), (1, .int .i64 (m : Int))] Try.func71 rfl rfl rfl rfl ?_
  refine C.seq ?_
  refine C.region ?_
  refine W.assign rfl rfl ?_
  refine W.assign rfl rfl ?_
  refine W.nil ?_
  refine At.thenCode ?_
  refine C.seq ?_
  refine C.region ?_
  refine W.move rfl rfl ?_
  refine W.move rfl rfl ?_
  refine W.call Try.call69 rfl (Cod.rint_ok _ _ _ _ _ _ _ (by assumption) (by assumption) (by first | omega | decide)) rfl ?_
  rintro v10 w10 ⟨rfl, hP10⟩
  have hr10 := hP10.rdr
  refine W.assign rfl rfl ?_
  refine W.nil ?_
  refine At.thenCode ?_
  refine C.seq ?_
  refine C.region ?_
  refine W.move rfl rfl ?_
  refine W.call Try.call69 rfl (Cod.rint_ok g q c b (intS m s).2 1048576 _ hr10 hlen (by decide)) rfl ?_
  rintro v12 w12 ⟨rfl, hP12⟩
  have hr12 := hP12.rdr
  refine W.assign rfl rfl ?_
  refine W.nil ?_
  refine At.thenCode ?_
  refine C.seq ?_
  refine C.seq ?_
  refine C.region ?_
  refine W.move rfl rfl ?_
  refine W.eqlI rfl rfl rfl ?_
  refine W.move rfl rfl ?_
  first | refine W.splitD (fun g15 => ?_) (fun g15 => ?_) | refine W.splitB (fun g15 => ?_) (fun g15 => ?_)
  · refine W.wants rfl rfl rfl rfl ?_
    refine W.move rfl rfl ?_
    refine W.wants rfl rfl rfl rfl ?_
    refine W.gtrI rfl rfl rfl ?_
    refine W.pickT rfl rfl rfl ?_
    refine W.nil ?_
    refine At.thenCode ?_
    first | refine C.condD rfl (fun c18 => ?_) (fun c18 => ?_) | refine C.cond rfl (fun c18 => ?_) (fun c18 => ?_)
    · refine C.region ?_
      refine W.move rfl rfl ?_
      refine W.call Try.call81 rfl (Cod.fail_ok _ _ _ _ _ _ _ (by assumption) (by decide) (by decide)) rfl ?_
      rintro v20 w20 ⟨rfl, hP20⟩
      refine W.nil ?_
      refine At.thenCode ?_
      refine C.seq ?_
      refine C.region ?_
      refine W.move rfl rfl ?_
      refine W.move rfl rfl ?_
      refine W.assign rfl rfl ?_
      refine W.assign rfl rfl ?_
      refine W.nil ?_
      refine At.thenCode ?_
      refine C.ret ?_
      refine At.ret2 Try.results71 rfl rfl ?_
      first
      | (have e : sizeS (intS m s).1 (intS m s).2 = ((intS 1048576 (intS m s).2).1, failS 2 (intS 1048576 (intS m s).2).2) := by
           have hc : (intS m s).1 = 0 ∧ 0 < (intS 1048576 (intS m s).2).1 := ⟨by omega, by omega⟩
           unfold sizeS; rw [if_pos hc]
         rw [e]
         exact ⟨rfl, (hP10.trans hP12).trans hP20⟩)
      | (have e : sizeS (intS m s).1 (intS m s).2 = intS 1048576 (intS m s).2 := by
           have hc : ¬ ((intS m s).1 = 0 ∧ 0 < (intS 1048576 (intS m s).2).1) := by rintro ⟨h1, h2⟩; first | omega | exact g15 (by omega) | (simp_all; done)
           unfold sizeS; rw [if_neg hc]
         rw [e]
         exact ⟨rfl, hP10.trans hP12⟩)
    · refine C.skip ?_
      refine At.thenCode ?_
      refine C.seq ?_
      refine C.region ?_
      refine W.move rfl rfl ?_
      refine W.move rfl rfl ?_
      refine W.assign rfl rfl ?_
      refine W.assign rfl rfl ?_
      refine W.nil ?_
      refine At.thenCode ?_
      refine C.ret ?_
      refine At.ret2 Try.results71 rfl rfl ?_
      first
      | (have e : sizeS (intS m s).1 (intS m s).2 = ((intS 1048576 (intS m s).2).1, failS 2 (intS 1048576 (intS m s).2).2) := by
           have hc : (intS m s).1 = 0 ∧ 0 < (intS 1048576 (intS m s).2).1 := ⟨by omega, by omega⟩
           unfold sizeS; rw [if_pos hc]
         rw [e]
         exact ⟨rfl, (hP10.trans hP12).trans hP20⟩)
      | (have e : sizeS (intS m s).1 (intS m s).2 = intS 1048576 (intS m s).2 := by
           have hc : ¬ ((intS m s).1 = 0 ∧ 0 < (intS 1048576 (intS m s).2).1) := by rintro ⟨h1, h2⟩; first | omega | exact g15 (by omega) | (simp_all; done)
           unfold sizeS; rw [if_neg hc]
         rw [e]
         exact ⟨rfl, hP10.trans hP12⟩)
  · refine W.skips rfl rfl rfl rfl rfl rfl ?_
    refine W.skips rfl rfl rfl rfl rfl rfl ?_
    refine W.pickF rfl rfl rfl ?_
    refine W.nil ?_
    refine At.thenCode ?_
    refine C.condF rfl ?_
    refine C.skip ?_
    refine At.thenCode ?_
    refine C.seq ?_
    refine C.region ?_
    refine W.move rfl rfl ?_
    refine W.move rfl rfl ?_
    refine W.assign rfl rfl ?_
    refine W.assign rfl rfl ?_
    refine W.nil ?_
    refine At.thenCode ?_
    refine C.ret ?_
    refine At.ret2 Try.results71 rfl rfl ?_
    first
    | (have e : sizeS (intS m s).1 (intS m s).2 = ((intS 1048576 (intS m s).2).1, failS 2 (intS 1048576 (intS m s).2).2) := by
         have hc : (intS m s).1 = 0 ∧ 0 < (intS 1048576 (intS m s).2).1 := ⟨by omega, by omega⟩
         unfold sizeS; rw [if_pos hc]
       rw [e]
       exact ⟨rfl, (hP10.trans hP12).trans hP20⟩)
    | (have e : sizeS (intS m s).1 (intS m s).2 = intS 1048576 (intS m s).2 := by
         have hc : ¬ ((intS m s).1 = 0 ∧ 0 < (intS 1048576 (intS m s).2).1) := by rintro ⟨h1, h2⟩; first | omega | exact g15 (by omega) | (simp_all; done)
         unfold sizeS; rw [if_neg hc]
       rw [e]
       exact ⟨rfl, hP10.trans hP12⟩)
end Go.Proofs.Ythiijdbiikljpaa.Cod
