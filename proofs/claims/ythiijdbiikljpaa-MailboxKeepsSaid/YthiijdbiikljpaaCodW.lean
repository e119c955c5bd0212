/- The writer of package codec: what its calls leave. -/
import Derived.Test.YthiijdbiikljpaaCod
import Derived.Test.YthiijdbiikljpaaKx
import Derived.Test.YthiijdbiikljpaaKl
namespace Go.Proofs.Ythiijdbiikljpaa.Cod
open Go Go.RowKit Go.Proofs.Ythiijdbiikljpaa.KW Go.Proofs.Ythiijdbiikljpaa.Words Go.Proofs.Ythiijdbiikljpaa.Grp
set_option linter.unusedVariables false
set_option linter.unusedSimpArgs false
set_option maxRecDepth 100000

theorem putsL_append (a b : List Nat) : putsL (a ++ b) = putsL a ++ putsL b := by
  induction a with
  | nil => rfl
  | cons x r ih => simp only [List.cons_append, putsL, ih, List.append_assoc]
theorem putsL_length (l : List Nat) : (putsL l).length = 8 * l.length := by
  induction l with
  | nil => rfl
  | cons x r ih => simp only [putsL, List.length_append, be64_length, ih, List.length_cons]; omega
def be64c (x : Nat) : List UInt8 := [UInt8.ofNat (x / 72057594037927936), UInt8.ofNat (x / 281474976710656), UInt8.ofNat (x / 1099511627776), UInt8.ofNat (x / 4294967296), UInt8.ofNat (x / 16777216), UInt8.ofNat (x / 65536), UInt8.ofNat (x / 256), UInt8.ofNat x]
theorem be64c_eq (x : Nat) : be64c x = be64 x := by
  simp only [be64c, be64, be32, List.cons_append, List.nil_append, List.cons.injEq, and_true]
  refine ⟨?_, ?_, ?_, ?_, ?_, ?_, ?_, ?_⟩ <;> (apply UInt8.toNat_inj.1; rw [ofNat_toNat, ofNat_toNat]; omega)
theorem Bk.one {w : World} {g : Nat} {v v' : Value} (h : Bk w g [v]) (h' : Bk w g [v']) : v = v' := by
  obtain ⟨e, h⟩ := h
  obtain ⟨e', h'⟩ := h'
  rw [h] at h'
  injection h' with h'
  injection h' with h1 _ _
  simpa using h1
/-- The blocks of the writer at g: its own, and the row of its bytes. -/
def WS (w : World) (g : Nat) : Nat → Prop := fun k => k = g ∨ ∃ v, Bk w g [v] ∧ v.ownBlock = some k
structure Wr (w : World) (g base : Nat) (xs : List UInt8) : Prop where
  low : base ≤ g
  own : ∃ v, Bk w g [v] ∧ Ow w base 5 v xs ∧ v.ownBlock ≠ some g
theorem Wr.lt {w : World} {g base : Nat} {xs : List UInt8} (h : Wr w g base xs) {k : Nat} (hk : WS w g k) : base ≤ k ∧ k < w.heap.size := by
  obtain ⟨v, h1, h2, h3⟩ := h.own
  rcases hk with rfl | ⟨v', h4, h5⟩
  · exact ⟨h.low, h1.lt⟩
  · obtain rfl := Bk.one h1 h4
    exact World.ownsRow.lt h2 k h5
/-- What a call of the writer leaves. -/
structure WrP (w : World) (g base : Nat) (xs : List UInt8) (w' : World) : Prop where
  wr : Wr w' g base xs
  chg : Chg (WS w g) w w'
  ws : ∀ k, WS w' g k → WS w g k ∨ w.heap.size ≤ k
theorem WrP.refl {w : World} {g base : Nat} {xs : List UInt8} (h : Wr w g base xs) : WrP w g base xs w := ⟨h, Chg.refl _ _, fun k hk => Or.inl hk⟩
theorem WrP.trans {w w1 w2 : World} {g base : Nat} {xs ys : List UInt8} (h : WrP w g base xs w1) (k : WrP w1 g base ys w2) : WrP w g base ys w2 :=
  ⟨k.wr, h.chg.news k.chg h.ws, fun q hq => by
    rcases k.ws q hq with h1 | h1
    · exact h.ws q h1
    · exact Or.inr (Nat.le_trans h.chg.size h1)⟩
/-- Changes elsewhere leave the writer. -/
theorem Wr.ext {w w' : World} {g base : Nat} {xs : List UInt8} (h : Wr w g base xs) (c : Ext w w') : WrP w g base xs w' := by
  obtain ⟨v, h1, h2, h3⟩ := h.own
  refine ⟨⟨h.low, v, h1.ext c, ownsRow_ext h2 c, h3⟩, c.mono fun k hk => hk.elim, fun k hk => Or.inl ?_⟩
  rcases hk with rfl | ⟨v', h4, h5⟩
  · exact Or.inl rfl
  · obtain rfl := Bk.one (h1.ext c) h4
    exact Or.inr ⟨v, h1, h5⟩
theorem WrP.ext {w w1 w2 : World} {g base : Nat} {xs : List UInt8} (h : WrP w g base xs w1) (c : Ext w1 w2) : WrP w g base xs w2 := h.trans (h.wr.ext c)
/-- Changes of a block that is not the writer's. -/
theorem Wr.chg {S : Nat → Prop} {w w' : World} {g base : Nat} {xs : List UInt8} (h : Wr w g base xs) (c : Chg S w w') (hn : ∀ k, WS w g k → ¬ S k) : Wr w' g base xs := by
  obtain ⟨v, h1, h2, h3⟩ := h.own
  exact ⟨h.low, v, h1.chg c (hn g (Or.inl rfl)), ownsRow_chg h2 c fun k hk => hn k (Or.inr ⟨v, h1, hk⟩), h3⟩
theorem Wr.ws_chg {S : Nat → Prop} {w w' : World} {g base : Nat} {xs : List UInt8} (h : Wr w g base xs) (c : Chg S w w') (hn : ∀ k, WS w g k → ¬ S k) {k : Nat} (hk : WS w' g k) : WS w g k := by
  obtain ⟨v, h1, h2, h3⟩ := h.own
  rcases hk with rfl | ⟨v', h4, h5⟩
  · exact Or.inl rfl
  · obtain rfl := Bk.one (h1.chg c (hn g (Or.inl rfl))) h4
    exact Or.inr ⟨v, h1, h5⟩
theorem Wr.step {w w1 w2 : World} {g base : Nat} {v v' : Value} {ys : List UInt8} (hlow : base ≤ g) (h : Bk w g [v]) (hn : v.ownBlock ≠ some g) (h1 : Ow w1 base 5 v' ys) (hg : w.grownBy w1 v.ownBlock) (hl : v'.ownBlock = v.ownBlock ∨ ∃ k, v'.ownBlock = some k ∧ w.heap.size ≤ k) (hc : Chg (fun k => k = g) w1 w2) (hb : Bk w2 g [v']) : WrP w g base ys w2 := by
  have hlt := h.lt
  have hne : v'.ownBlock ≠ some g := by
    rcases hl with hl | ⟨k, hl, hk⟩
    · rw [hl]; exact hn
    · rw [hl]; intro e; obtain rfl := Option.some.inj e; omega
  refine ⟨⟨hlow, v', hb, ownsRow_chg h1 hc (fun k hk e => hne (by rw [hk, e])), hne⟩, ?_, ?_⟩
  · refine ((Chg.of_grown hg).mono ?_).trans (hc.mono fun k hk => Or.inl hk)
    intro k hk
    exact Or.inr ⟨v, h, hk.symm⟩
  · intro k hk
    rcases hk with rfl | ⟨v2, h4, h5⟩
    · exact Or.inl (Or.inl rfl)
    · obtain rfl := Bk.one hb h4
      rcases hl with hl | ⟨k', hl, hk'⟩
      · exact Or.inl (Or.inr ⟨v, h, by rw [← hl]; exact h5⟩)
      · rw [hl] at h5; obtain rfl := Option.some.inj h5; exact Or.inr hk'
/-- A new writer. -/
theorem Wr.mk' {w : World} {g base : Nat} (hlow : base ≤ g) (hb : Bk w g [.slice none 0 0]) : Wr w g base [] := ⟨hlow, _, hb, Ow.nil _ _ _, by intro e; cases e⟩
theorem own_one {w : World} {base e : Nat} {v : Value} {xs : List UInt8} (h : Ow w base e v xs) : v.oneCell' = true := by
  obtain ⟨ao, c, rfl, _, _⟩ := ownsRow_form h
  rfl
theorem us_take {l : List Nat} {i : Nat} (h : i < l.length) : putsL (l.take (i + 1)) = putsL (l.take i) ++ be64 (l[i]'h) := by
  rw [List.take_succ_eq_append_getElem h, putsL_append]
  simp [putsL]
theorem U64 : Elem Try.prog 41 1 8 (.int .u64 0) := Elem.of (by kernel_rfl) rfl rfl
theorem put_ok (g base : Nat) (ao : Option Addr) (c : Nat) (l : List Nat) (xs : List UInt8) (w : World) (hW : Wr w g base xs) (hl : Us w ao c l) (hn : ∀ ad, ao = some ad → l ≠ [] → ¬ WS w g ad.block) (hlen : xs.length + 8 * l.length ≤ 70368744177000) :
    Ct Try.prog 51 #[.pointer (some ⟨g, 0, none⟩), .slice ao l.length c] w (fun v w' => v = .tuple #[] ∧ WrP w g base (xs ++ putsL l) w') := by
  refine Ct.enter [(0, .pointer (some ⟨g, 0, none⟩)), (1, .slice ao l.length c)] Try.func51 rfl rfl rfl rfl ?_
  have hpl := putsL_length l
  refine C.seq ?_
  refine C.region ?_
  refine W.move rfl rfl ?_
  refine W.lenS rfl Try.underlying30 rfl ?_
  refine W.move rfl rfl ?_
  refine W.nil ?_
  refine At.thenCode ?_
  refine C.block ?_
  refine C.loop (X := Nat) (fun x_ => [(0, .pointer (some ⟨g, 0, none⟩)), (6, .slice ao l.length c), (7, .int .i64 (l.length : Int)), (8, .int .i64 (x_ : Int))]) (fun x_ w1 => x_ ≤ l.length ∧ WrP w g base (xs ++ putsL (l.take x_)) w1) (fun x_ => l.length - x_) (0) (Sub.cons (rfl) (Sub.cons (rfl) (Sub.cons (rfl) (Sub.cons (rfl) (Sub.nil))))) ?start1 ?_
  case start1 =>
    show (0) ≤ l.length ∧ WrP w g base (xs ++ putsL (l.take (0))) _
    exact ⟨by omega, by simpa [putsL] using WrP.refl hW⟩
  rintro i w1 hI_
  replace hI_ : i ≤ l.length ∧ WrP w g base (xs ++ putsL (l.take i)) w1 := hI_
  obtain ⟨hi, hP1⟩ := hI_
  refine C.weaken (l' := [(0, .pointer (some ⟨g, 0, none⟩)), (6, .slice ao l.length c), (7, .int .i64 (l.length : Int)), (8, .int .i64 (i : Int))]) (Sub.cons (rfl) (Sub.cons (rfl) (Sub.cons (rfl) (Sub.cons (rfl) (Sub.nil))))) ?_
  refine C.seq ?_
  refine C.region ?_
  refine W.lssI rfl rfl rfl ?_
  refine W.nil ?_
  refine At.thenCode ?_
  refine C.seq ?_
  first | refine C.condD rfl (fun c9 => ?_) (fun c9 => ?_) | refine C.cond rfl (fun c9 => ?_) (fun c9 => ?_)
  · have hlt : i < l.length := by omega
    have hl1 : Us w1 ao c l := Sl.chg hl hP1.chg (fun ad e hc => hn ad e (by rintro rfl; exact hc rfl))
    have hpt := us_take hlt
    have hptl := putsL_length (l.take i)
    have htl : (l.take i).length = i := by rw [List.length_take]; omega
    obtain ⟨vb, hB1, hO1, hne1⟩ := hP1.wr.own
    refine C.skip ?_
    refine At.thenCode ?_
    refine C.seq ?_
    refine C.block ?_
    refine C.seq ?_
    refine C.region ?_
    refine W.idx (v := .int .u64 ((l[i] : Nat) : Int)) U64 Try.underlying30 Try.underlying41 rfl rfl hl1 rfl (by omega) (by rw [Int.toNat_natCast]; exact get_u64 hlt) rfl rfl ?_
    intro p10
    -- read with the address
    refine W.assign rfl rfl ?_
    refine W.nil ?_
    refine At.thenCode ?_
    refine C.region ?_
    refine W.move rfl rfl ?_
    refine W.move rfl rfl ?_
    refine W.nilCheck rfl rfl ?_
    refine W.fieldB (off := 0) (size := 1) (t := 51) (Fld.of (by kernel_rfl)) rfl rfl rfl ?_
    refine W.loadB rfl Try.underlying51 rfl (by assumption) rfl rfl ?_
    refine W.move rfl rfl ?_
    refine W.shrU (B := 64) (s := 56) rfl rfl rfl rfl ?_
    refine W.convUU (M := 256) rfl Try.underlying41 Try.underlying5 rfl rfl rfl ?_
    refine W.move rfl rfl ?_
    refine W.shrU (B := 64) (s := 48) rfl rfl rfl rfl ?_
    refine W.convUU (M := 256) rfl Try.underlying41 Try.underlying5 rfl rfl rfl ?_
    refine W.move rfl rfl ?_
    refine W.shrU (B := 64) (s := 40) rfl rfl rfl rfl ?_
    refine W.convUU (M := 256) rfl Try.underlying41 Try.underlying5 rfl rfl rfl ?_
    refine W.move rfl rfl ?_
    refine W.shrU (B := 64) (s := 32) rfl rfl rfl rfl ?_
    refine W.convUU (M := 256) rfl Try.underlying41 Try.underlying5 rfl rfl rfl ?_
    refine W.move rfl rfl ?_
    refine W.shrU (B := 64) (s := 24) rfl rfl rfl rfl ?_
    refine W.convUU (M := 256) rfl Try.underlying41 Try.underlying5 rfl rfl rfl ?_
    refine W.move rfl rfl ?_
    refine W.shrU (B := 64) (s := 16) rfl rfl rfl rfl ?_
    refine W.convUU (M := 256) rfl Try.underlying41 Try.underlying5 rfl rfl rfl ?_
    refine W.move rfl rfl ?_
    refine W.shrU (B := 64) (s := 8) rfl rfl rfl rfl ?_
    refine W.convUU (M := 256) rfl Try.underlying41 Try.underlying5 rfl rfl rfl ?_
    refine W.move rfl rfl ?_
    refine W.convUU (M := 256) rfl Try.underlying41 Try.underlying5 rfl rfl rfl ?_
    refine W.litB (be64c l[i]) E8 Try.underlying51 rfl ?_ rfl rfl rfl ?_
    · simp only [be64c, List.map_cons, List.map_nil, byteV_ofNat]; rfl
    intro g40 w40 hg40 hX40 _ hb40
    rw [be64c_eq] at hb40
    have hO40 := ownsRow_ext hO1 hX40
    have hB40 := hB1.ext hX40
    refine W.appendB (ys := be64 l[i]) E8 Try.underlying51 rfl rfl hO40 hb40 (by rw [be64_length, List.length_append]; omega) (by have := hX40.size; have := hP1.chg.size; have := hB40.lt; have := hP1.wr.low; omega) rfl ?_
    intro v41 w41 ho41 hg41 hl41
    have hB41 : Bk w41 g [vb] := hB40.chg (Chg.of_grown hg41) (fun e => hne1 e.symm)
    refine W.nilCheck rfl rfl ?_
    refine W.fieldB (off := 0) (size := 1) (t := 51) (Fld.of (by kernel_rfl)) rfl rfl rfl ?_
    refine W.store1 rfl rfl (own_one ho41) hB41 (by simp) (by kernel_rfl) ?_
    intro w42 hc42 hB42
    have hstep := (hP1.ext hX40).trans (Wr.step hP1.wr.low hB40 hne1 ho41 hg41 hl41 hc42 (by simpa using hB42))
    refine W.nil ?_
    refine At.blockNormal ?_
    refine At.thenCode ?_
    refine C.region ?_
    first | refine W.addI rfl rfl (by omega) rfl ?_ | refine W.addW rfl rfl rfl ?_
    refine W.move rfl rfl ?_
    refine W.nil ?_
    refine At.thenRound (i + 1) (Sub.cons (rfl) (Sub.cons (rfl) (Sub.cons (rfl) (Sub.cons (look_eq rfl (by rw [show (i : Int) + 1 = ((i + 1 : Nat) : Int) by omega])) (Sub.nil))))) (show (i + 1) ≤ l.length ∧ WrP w g base (xs ++ putsL (l.take (i + 1))) _ from ?_) (show l.length - (i + 1) < l.length - i from ?_)
    · refine ⟨by omega, ?_⟩
      rw [hpt, ← List.append_assoc]; exact hstep
    · omega
  · refine C.exit ?_
    refine At.thenExit ?_
    refine At.thenExit ?_
    refine At.blockSelf ?_
    refine At.end0 Try.results51 ?_
    refine ⟨rfl, ?_⟩
    rw [List.take_of_length_le (by omega)] at hP1
    exact hP1
theorem bytes_ok (g base : Nat) (ao : Option Addr) (c : Nat) (ys : List UInt8) (xs : List UInt8) (w : World) (hW : Wr w g base xs) (hl : Bs w ao c ys) (hlen : xs.length + ys.length ≤ 70368744177000) :
    Ct Try.prog 52 #[.pointer (some ⟨g, 0, none⟩), .slice ao ys.length c] w (fun v w' => v = .tuple #[] ∧ WrP w g base (xs ++ ys) w') := by
  refine Ct.enter [(0, .pointer (some ⟨g, 0, none⟩)), (1, .slice ao ys.length c)] Try.func52 rfl rfl rfl rfl ?_
  obtain ⟨vb, hB1, hO1, hne1⟩ := hW.own
  refine C.region ?_
  refine W.move rfl rfl ?_
  refine W.move rfl rfl ?_
  refine W.nilCheck rfl rfl ?_
  refine W.fieldB (off := 0) (size := 1) (t := 51) (Fld.of (by kernel_rfl)) rfl rfl rfl ?_
  refine W.loadB rfl Try.underlying51 rfl (by assumption) rfl rfl ?_
  refine W.move rfl rfl ?_
  refine W.appendB (ys := ys) E8 Try.underlying51 rfl rfl hO1 hl (by omega) (by have := hB1.lt; have := hW.low; omega) rfl ?_
  intro v41 w41 ho41 hg41 hl41
  have hB41 : Bk w41 g [vb] := hB1.chg (Chg.of_grown hg41) (fun e => hne1 e.symm)
  refine W.nilCheck rfl rfl ?_
  refine W.fieldB (off := 0) (size := 1) (t := 51) (Fld.of (by kernel_rfl)) rfl rfl rfl ?_
  refine W.store1 rfl rfl (own_one ho41) hB41 (by simp) (by kernel_rfl) ?_
  intro w42 hc42 hB42
  refine W.nil ?_
  refine At.end0 Try.results52 ?_
  exact ⟨rfl, Wr.step hW.low hB1 hne1 ho41 hg41 hl41 hc42 (by simpa using hB42)⟩
end Go.Proofs.Ythiijdbiikljpaa.Cod
