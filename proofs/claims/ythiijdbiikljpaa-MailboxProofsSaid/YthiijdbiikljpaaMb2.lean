/- Package mailbox: a store in memory; what it tells of itself. -/
import Derived.Test.YthiijdbiikljpaaMb1
import Derived.Test.YthiijdbiikljpaaCodG
import Derived.Test.YthiijdbiikljpaaDisk2
namespace Go.Proofs.Ythiijdbiikljpaa.Mbx
open Go Go.RowKit Go.Proofs.Ythiijdbiikljpaa.KW Go.Proofs.Ythiijdbiikljpaa.Words Go.Proofs.Ythiijdbiikljpaa.Sha Go.Proofs.Ythiijdbiikljpaa.RSha Go.Proofs.Ythiijdbiikljpaa.Grp Go.Proofs.Ythiijdbiikljpaa.Cod Go.Proofs.Ythiijdbiikljpaa.Disk
open Go.WideMaps (KeyLaw)
set_option linter.unusedVariables false
set_option linter.unusedSimpArgs false
set_option maxRecDepth 100000
/-! ### keys -/
theorem laidOut : laidOutB Try.prog = true := by kernel_rfl
theorem lawP : KeyLaw Try.prog 83 := deep_law_laid laidOut (m := 2) (by decide) (of_decide_eq_true (by kernel_rfl)) (by kernel_rfl) (by kernel_rfl)
theorem lawK : KeyLaw Try.prog 50 := deep_law_laid laidOut (m := 2) (by decide) (of_decide_eq_true (by kernel_rfl)) (by kernel_rfl) (by kernel_rfl)
def InI (a : Int) : Prop := -9223372036854775808 ≤ a ∧ a ≤ 9223372036854775807
def placeV (r c : Int) : Value := .agg #[.int .i64 r, .int .i64 c]
theorem keyP {r c : Int} (hr : InI r) (hc : InI c) : ∃ l, keyOf Try.prog 83 (placeV r c) = some l := keyOf_pair Try.underlying83 (e := 3) rfl Try.underlying3 (by kernel_rfl) (by kernel_rfl) (by kernel_rfl) (of_decide_eq_true (by kernel_rfl)) hr hc
theorem keyK {k : List UInt8} (h : k.length = 32) : ∃ l, keyOf Try.prog 50 (keyV k) = some l := keyOf_bytes Try.underlying50 Try.underlying5 (by kernel_rfl) (by kernel_rfl) (by kernel_rfl) (of_decide_eq_true (by kernel_rfl)) h
theorem placeV_inj {r c r' c' : Int} (h : placeV r c = placeV r' c') : r = r' ∧ c = c' := by
  unfold placeV at h
  injection h with h
  simp at h
  exact h
theorem byteV_inj {a b : UInt8} (h : byteV a = byteV b) : a = b := by
  unfold byteV at h
  injection h with _ h
  exact UInt8.toNat_inj.1 (by omega)
theorem keyV_inj {a b : List UInt8} (h : keyV a = keyV b) : a = b := by
  unfold keyV at h
  injection h with h
  have h : a.map byteV = b.map byteV := by simpa using congrArg Array.toList h
  induction a generalizing b with
  | nil => cases b with
    | nil => rfl
    | cons y r => simp at h
  | cons x r ih => cases b with
    | nil => simp at h
    | cons y t =>
      simp only [List.map_cons, List.cons.injEq] at h
      rw [byteV_inj h.1, ih (by rw [h.2]) h.2]
theorem EHeld : Elem Try.prog 87 2 32 (.agg #[.int .i64 0, .slice none 0 0]) := Elem.of (by kernel_rfl) rfl rfl

/-! ### a store in memory -/
def RHeld : RdT (Int × List UInt8) := fun A w cs p => ∃ v, cs = [.int .i64 p.1, v] ∧ RByt A w [v] p.2 ∧ InI p.1
theorem rHeld : RdOk RHeld := by
  refine ⟨?_, ?_, ?_⟩
  · rintro A w w' cs x ⟨v, rfl, h, hx⟩ g; exact ⟨v, rfl, rByt.chg h g, hx⟩
  · rintro A B w cs x ⟨v, rfl, h, hx⟩ g; exact ⟨v, rfl, rByt.new h g, hx⟩
  · rintro A w cs x ⟨v, rfl, h, hx⟩ u hu
    simp only [List.mem_cons, List.not_mem_nil, or_false] at hu
    rcases hu with rfl | rfl
    · rfl
    · exact rByt.one h _ (by simp)
theorem OwE.chgS {α : Type} {R : RdT α} (hR : RdOk R) {A S : Nat → Prop} {w w' : World} {base e sz : Nat} {v : Value} {xs : List α} (h : OwE A w base e sz R v xs) (g : Chg S w w') (hS : ∀ k, S k → A k) (hn : ∀ k, v.ownBlock = some k → ¬ S k) : OwE A w' base e sz R v xs := by
  obtain ⟨cs, ho, he⟩ := h
  exact ⟨cs, ownsRow_chg ho g hn, fun i hi => hR.chg (he i hi) (g.mono fun k hk => Or.inl (hS k hk))⟩
abbrev Hs := List UInt8 → List (Int × List UInt8)
/-- The map of letters: F the store's blocks, Z those that are not rows, X what no letter's bytes lie in. -/
structure LM (w : World) (F Z X : Nat → Prop) (b : Nat) (f : Hs) (es : List MapEntry) (clock : Nat) : Prop where
  mp : Mp Try.prog 50 w b es clock
  sound : ∀ e ∈ es, ∃ name, name.length = 32 ∧ e.key = keyV name ∧ OwE X w 0 87 2 RHeld e.val (f name)
  whole : ∀ name, name.length = 32 → f name ≠ [] → ∃ e ∈ es, e.key = keyV name
  rows : ∀ e ∈ es, ∀ k, e.val.ownBlock = some k → F k ∧ X k ∧ ¬ Z k
  apart : es.Pairwise (fun e e' => ∀ k, e.val.ownBlock = some k → e'.val.ownBlock ≠ some k)
structure Sets (w : World) (F Z X : Nat → Prop) : Prop where
  zf : ∀ k, Z k → F k
  zx : ∀ k, Z k → X k
  fx : ∀ k, ¬ F k → X k
  lt : ∀ k, F k → k < w.heap.size
theorem LM.keep {w w' : World} {F Z X S : Nat → Prop} {b : Nat} {f : Hs} {es : List MapEntry} {clock : Nat} (h : LM w F Z X b f es clock) (hs : Sets w F Z X) (g : Chg S w w') (hS : ∀ k, S k → Z k ∨ ¬ F k) (hb : ¬ S b) : LM w' F Z X b f es clock := by
  refine ⟨h.mp.chg g hb, fun e he => ?_, h.whole, h.rows, h.apart⟩
  obtain ⟨name, h1, h2, h3⟩ := h.sound e he
  exact ⟨name, h1, h2, OwE.chgS rHeld h3 g (fun k hk => (hS k hk).elim (hs.zx k) (hs.fx k)) fun k hk hSk => by
    obtain ⟨r1, r2, r3⟩ := h.rows e he k hk
    rcases hS k hSk with h4 | h4
    · exact r3 h4
    · exact h4 r1⟩
theorem LM.grow {w : World} {F F' Z X : Nat → Prop} {b : Nat} {f : Hs} {es : List MapEntry} {clock : Nat} (h : LM w F Z X b f es clock) (hF : ∀ k, F k → F' k) : LM w F' Z X b f es clock :=
  ⟨h.mp, h.sound, h.whole, fun e he k hk => let r := h.rows e he k hk; ⟨hF _ r.1, r.2⟩, h.apart⟩
/-- The map of places. -/
structure AM (w : World) (b : Nat) (l : List BatD) (es : List MapEntry) (clock : Nat) : Prop where
  mp : Mp Try.prog 83 w b es clock
  are : es.map (fun e => (e.key, e.val)) = l.map (fun x => (placeV x.round x.chain, Value.bool true))
theorem AM.chg {S : Nat → Prop} {w w' : World} {b : Nat} {l : List BatD} {es : List MapEntry} {clock : Nat} (h : AM w b l es clock) (g : Chg S w w') (hb : ¬ S b) : AM w' b l es clock := ⟨h.mp.chg g hb, h.are⟩
theorem AM.len {w : World} {b : Nat} {l : List BatD} {es : List MapEntry} {clock : Nat} (h : AM w b l es clock) : es.length = l.length := by
  have := congrArg List.length h.are
  simpa using this
theorem AM.mem {w : World} {b : Nat} {l : List BatD} {es : List MapEntry} {clock : Nat} (h : AM w b l es clock) {e : MapEntry} (he : e ∈ es) : e.val = .bool true ∧ ∃ x ∈ l, e.key = placeV x.round x.chain := by
  have h1 : (e.key, e.val) ∈ l.map (fun x => (placeV x.round x.chain, Value.bool true)) := by rw [← h.are]; exact List.mem_map.2 ⟨e, he, rfl⟩
  obtain ⟨x, hx, hk⟩ := List.mem_map.1 h1
  injection hk with h2 h3
  exact ⟨h3.symm, x, hx, h2.symm⟩
theorem AM.has {w : World} {b : Nat} {l : List BatD} {es : List MapEntry} {clock : Nat} (h : AM w b l es clock) (r c : Int) : (∃ e ∈ es, e.key = placeV r c) ↔ hasL l r c = true := by
  constructor
  · rintro ⟨e, he, hk⟩
    obtain ⟨_, x, hx, hx2⟩ := h.mem he
    obtain ⟨h1, h2⟩ := placeV_inj (hx2.symm.trans hk)
    unfold hasL
    exact List.any_eq_true.2 ⟨x, hx, decide_eq_true ⟨h1, h2⟩⟩
  · intro hh
    obtain ⟨x, hx, hd⟩ := List.any_eq_true.1 hh
    obtain ⟨h1, h2⟩ := of_decide_eq_true hd
    have h3 : (placeV x.round x.chain, Value.bool true) ∈ es.map (fun e => (e.key, e.val)) := by rw [h.are]; exact List.mem_map.2 ⟨x, hx, rfl⟩
    obtain ⟨e, he, hk⟩ := List.mem_map.1 h3
    injection hk with h4 h5
    exact ⟨e, he, by rw [h4, h1, h2]⟩
def stC (dg mg lg : Nat) (past : Nat) (o : Option Nat) : List Value := [.pointer (some ⟨dg, 0, none⟩), .map (some mg), .map (some lg), .int .i64 (past : Int), .int .i64 (owedI o)]
def Zof (g mg lg : Nat) : Nat → Prop := fun k => k = g ∨ k = mg ∨ k = lg
/-- A store in memory at block g; all its blocks are of F; its disk lies at dg. -/
structure St (w : World) (F : Nat → Prop) (g dg : Nat) (s : Bag) (o : Option Nat) : Prop where
  out : ∃ mg lg X es1 c1 es2 c2, Bk w g (stC dg mg lg s.past o) ∧ AM w mg s.l es1 c1 ∧ LM w F (Zof g mg lg) X lg (heldL s.l) es2 c2 ∧ Sets w F (Zof g mg lg) X ∧ g ≠ mg ∧ g ≠ lg ∧ mg ≠ lg
  own : F g
  lt : ∀ k, F k → k < w.heap.size
  ok : (∀ x ∈ s.l, BatOk x ∧ batE x = 0) ∧ s.past ≤ 1099511627776 ∧ ∀ n, o = some n → n ≤ 1099511627776
theorem St.chg {S F : Nat → Prop} {w w' : World} {g dg : Nat} {s : Bag} {o : Option Nat} (h : St w F g dg s o) (c : Chg S w w') (hd : ∀ k, F k → ¬ S k) : St w' F g dg s o := by
  obtain ⟨mg, lg, X, es1, c1, es2, c2, h1, h2, h3, h4, h5⟩ := h.out
  have hF : ∀ k, S k → ¬ F k := fun k hk hf => hd k hf hk
  refine ⟨⟨mg, lg, X, es1, c1, es2, c2, h1.chg c (hd _ h.own), h2.chg c (hd _ (h4.zf _ (.inr (.inl rfl)))), h3.keep h4 c (fun k hk => .inr (hF k hk)) (hd _ (h4.zf _ (.inr (.inr rfl)))), ⟨h4.zf, h4.zx, h4.fx, fun k hk => Nat.lt_of_lt_of_le (h.lt k hk) c.size⟩, h5⟩, h.own, fun k hk => Nat.lt_of_lt_of_le (h.lt k hk) c.size, h.ok⟩
theorem St.ext {F : Nat → Prop} {w w' : World} {g dg : Nat} {s : Bag} {o : Option Nat} (h : St w F g dg s o) (c : Ext w w') : St w' F g dg s o := h.chg c fun _ _ x => x
/-- Another number in the store's own block. -/
theorem St.cell {F : Nat → Prop} {w w' : World} {g dg : Nat} {s : Bag} {o o' : Option Nat} (h : St w F g dg s o) (c : Chg (fun k => k = g) w w') (hB : ∀ mg lg, Bk w g (stC dg mg lg s.past o) → Bk w' g (stC dg mg lg s.past o')) (ho : ∀ n, o' = some n → n ≤ 1099511627776) : St w' F g dg s o' := by
  obtain ⟨mg, lg, X, es1, c1, es2, c2, h1, h2, h3, h4, h5, h6, h7⟩ := h.out
  refine ⟨⟨mg, lg, X, es1, c1, es2, c2, hB _ _ h1, h2.chg c h5.symm, h3.keep h4 c (fun k hk => .inl (.inl hk)) h6.symm, ⟨h4.zf, h4.zx, h4.fx, fun k hk => Nat.lt_of_lt_of_le (h.lt k hk) c.size⟩, h5, h6, h7⟩, h.own, fun k hk => Nat.lt_of_lt_of_le (h.lt k hk) c.size, h.ok.1, h.ok.2.1, ho⟩
theorem Has_ok (F : Nat → Prop) (g dg : Nat) (s : Bag) (o : Option Nat) (r c : Int) (w : World) (hS : St w F g dg s o) (hr : InI r) (hc : InI c) :
    Ct Try.prog 16 #[.pointer (some ⟨g, 0, none⟩), .int .i64 r, .int .i64 c] w (fun v w' => v = .bool (hasL s.l r c) ∧ w = w') := by
  obtain ⟨mg, lg, X, es1, c1, es2, c2, h1, h2, h3, h4, h5⟩ := hS.out
  refine Ct.enter [(0, .pointer (some ⟨g, 0, none⟩)), (1, .int .i64 r), (2, .int .i64 c)] Try.func16 rfl rfl rfl rfl ?_
  obtain ⟨lk, hlk⟩ := keyP hr hc
  refine C.seq ?_
  refine C.region ?_
  refine W.assign rfl rfl ?_
  refine W.nil ?_
  refine At.thenCode ?_
  refine C.seq ?_
  refine C.region ?_
  refine W.move rfl rfl ?_
  refine W.nilCheck rfl rfl ?_
  refine W.fieldB (off := 1) (size := 1) (t := 68) (Fld.of (by kernel_rfl)) rfl rfl rfl ?_
  refine W.loadB rfl Try.underlying68 rfl (by assumption) rfl rfl ?_
  refine W.move rfl rfl ?_
  refine W.move rfl rfl ?_
  refine W.buildS (fs := _) [(0, 1), (1, 1)] [.int .i64 r, .int .i64 c] [(.int .i64 0), (.int .i64 0)] Try.underlying83 (by kernel_rfl) (by kernel_rfl) rfl rfl rfl ?_
  refine W.lookupM (z := .bool false) lawP Try.underlying68 (by kernel_rfl) rfl rfl h2.mp hlk rfl ?_
  intro rv hrv
  obtain rfl : rv = .bool (hasL s.l r c) := by
    rcases hrv with ⟨hn, rfl⟩ | ⟨e, he, hk, rfl⟩
    · have : ¬ hasL s.l r c = true := fun hh => by obtain ⟨e, he, hk⟩ := (h2.has r c).2 hh; exact hn e he hk
      simp only [Bool.not_eq_true] at this
      rw [this]
    · rw [(h2.mem he).1, (h2.has r c).1 ⟨e, he, hk⟩]
  refine W.assign rfl rfl ?_
  refine W.nil ?_
  refine At.thenCode ?_
  refine C.ret ?_
  refine At.ret1 Try.results16 rfl ?_
  exact ⟨rfl, rfl⟩
theorem Len_ok (F : Nat → Prop) (g dg : Nat) (s : Bag) (o : Option Nat) (w : World) (hS : St w F g dg s o) :
    Ct Try.prog 17 #[.pointer (some ⟨g, 0, none⟩)] w (fun v w' => v = .int .i64 (s.l.length : Int) ∧ w = w') := by
  obtain ⟨mg, lg, X, es1, c1, es2, c2, h1, h2, h3, h4, h5⟩ := hS.out
  refine Ct.enter [(0, .pointer (some ⟨g, 0, none⟩))] Try.func17 rfl rfl rfl rfl ?_
  refine C.seq ?_
  refine C.region ?_
  refine W.assign rfl rfl ?_
  refine W.nil ?_
  refine At.thenCode ?_
  refine C.seq ?_
  refine C.region ?_
  refine W.move rfl rfl ?_
  refine W.nilCheck rfl rfl ?_
  refine W.fieldB (off := 1) (size := 1) (t := 68) (Fld.of (by kernel_rfl)) rfl rfl rfl ?_
  refine W.loadB rfl Try.underlying68 rfl (by assumption) rfl rfl ?_
  refine W.lenM rfl h2.mp Try.underlying68 rfl ?_
  rw [h2.len]
  refine W.assign rfl rfl ?_
  refine W.nil ?_
  refine At.thenCode ?_
  refine C.ret ?_
  refine At.ret1 Try.results17 rfl ?_
  exact ⟨rfl, rfl⟩
theorem dLen_ok (F : Nat → Prop) (g : Nat) (rv : Int) (D : Dsk) (w : World) (hD : Dk w F g rv D) : Ct Try.prog 54 #[.pointer (some ⟨g, 0, none⟩)] w (fun v w' => v = .int .i64 (D.bs.length : Int) ∧ w = w') := by
  obtain ⟨bo, cb, fo, cf, h1, h2, h3, h4, h5⟩ := hD.out
  refine Ct.enter [(0, .pointer (some ⟨g, 0, none⟩))] Try.func54 rfl rfl rfl rfl ?_
  refine C.seq ?_
  refine C.region ?_
  refine W.assign rfl rfl ?_
  refine W.nil ?_
  refine At.thenCode ?_
  refine C.seq ?_
  refine C.region ?_
  refine W.move rfl rfl ?_
  refine W.nilCheck rfl rfl ?_
  refine W.fieldB (off := 1) (size := 1) (t := 51) (Fld.of (by kernel_rfl)) rfl rfl rfl ?_
  refine W.loadB rfl Try.underlying51 rfl (by assumption) rfl rfl ?_
  refine W.lenS rfl Try.underlying51 rfl ?_
  refine W.assign rfl rfl ?_
  refine W.nil ?_
  refine At.thenCode ?_
  refine C.ret ?_
  refine At.ret1 Try.results54 rfl ?_
  exact ⟨rfl, rfl⟩
/-- A batch in memory, of which nothing lies in A. -/
structure BatM (A : Nat → Prop) (w : World) (x : BatD) (vi vl : Value) : Prop where
  inner : RNums A w [vi] x.inner
  lets : RSl 33 RLet A w [vl] x.lets
  ok : BatOk x
  li : x.inner.length ≤ 9223372036854775807
  ll : x.lets.length ≤ 9223372036854775807
  lb : ∀ p ∈ x.lets, p.2.length ≤ 9223372036854775807
theorem BatM.chg {A : Nat → Prop} {w w' : World} {x : BatD} {vi vl : Value} (h : BatM A w x vi vl) (g : Chg A w w') : BatM A w' x vi vl := ⟨rNums.chg h.inner g, (rSl 33 rLet).chg h.lets g, h.ok, h.li, h.ll, h.lb⟩
theorem BatM.new {A B : Nat → Prop} {w : World} {x : BatD} {vi vl : Value} (h : BatM A w x vi vl) (g : ∀ k, B k → k < w.heap.size → A k) : BatM B w x vi vl := ⟨rNums.new h.inner g, (rSl 33 rLet).new h.lets g, h.ok, h.li, h.ll, h.lb⟩
theorem BatM.ext {A : Nat → Prop} {w w' : World} {x : BatD} {vi vl : Value} (h : BatM A w x vi vl) (g : Ext w w') : BatM A w' x vi vl := h.chg (g.mono fun _ c => c.elim)
theorem BatM.none {A : Nat → Prop} {w : World} {x : BatD} {vi vl : Value} (h : BatM A w x vi vl) : BatM (fun _ => False) w x vi vl := h.new fun _ c => c.elim
theorem BatM.is {A : Nat → Prop} {w : World} {x : BatD} {vi vl : Value} (h : BatM A w x vi vl) : ∃ ai ci al cl, vi = .slice ai x.inner.length ci ∧ vl = .slice al x.lets.length cl := by
  obtain ⟨ai, ci, rfl, _⟩ := RNums.form h.inner
  obtain ⟨al, cl, rfl, _⟩ := RSl.form h.lets
  exact ⟨ai, ci, al, cl, rfl, rfl⟩
theorem batC_one {A : Nat → Prop} {w : World} {x : BatD} {vi vl : Value} (h : BatM A w x vi vl) : ∀ u ∈ batC x vi vl, u.oneCell' = true := by
  obtain ⟨ai, ci, al, cl, rfl, rfl⟩ := h.is
  intro u hu
  unfold batC at hu
  simp only [List.mem_cons, List.not_mem_nil, or_false] at hu
  rcases hu with rfl | rfl | rfl | rfl <;> rfl
theorem may_ok (F A : Nat → Prop) (g dg : Nat) (s : Bag) (o : Option Nat) (x : BatD) (vi vl : Value) (w : World) (hS : St w F g dg s o) (hb : BatM A w x vi vl) :
    Ct Try.prog 29 #[.pointer (some ⟨g, 0, none⟩), .agg (batC x vi vl).toArray] w (fun v w' => v = .int .i64 (mayE s x : Int) ∧ Ext w w') := by
  refine Ct.enter [(0, .pointer (some ⟨g, 0, none⟩)), (1, .agg (batC x vi vl).toArray)] Try.func29 rfl rfl rfl rfl ?_
  have hir : InI x.round := hb.ok.1
  have hic : InI x.chain := hb.ok.2.1
  have hpast := hS.ok.2.1
  refine C.seq ?_
  refine C.region ?_
  refine W.box (batC x vi vl) rfl rfl rfl ?_
  intro g3 w3 hg3 hX3 hB3
  refine W.assign rfl rfl ?_
  refine W.nil ?_
  refine At.thenCode ?_
  refine C.seq ?_
  refine C.region ?_
  refine W.loadA rfl (hB3.cells (o := 0)) Try.underlying33 rfl (by kernel_rfl) rfl ?_
  rw [List.drop_zero]
  have hb' := (hb.ext hX3).none
  refine W.call Try.call31 rfl (Cod.Batch_ok x vi vl _ hb'.inner hb'.lets hb'.ok hb'.li hb'.ll hb'.lb) rfl ?_
  rintro v9 w9 ⟨a9, c9, rfl, hN9, hX9⟩
  have hB9 := hB3.ext hX9
  have hS9 := (hS.ext hX3).ext hX9
  have hXa := hX3.ext hX9
  obtain ⟨mg, lg, X, es1, c1, es2, c2, h1, h2, h3, h4, h5⟩ := hS9.out
  refine W.move rfl rfl ?_
  refine W.extract rfl rfl rfl ?_
  refine W.extract rfl rfl rfl ?_
  refine W.assign rfl rfl ?_
  refine W.assign rfl rfl ?_
  refine W.nil ?_
  refine At.thenCode ?_
  refine C.seq ?_
  refine C.block ?_
  refine C.seq ?_
  refine C.region ?_
  refine W.fieldB (off := 0) (size := 1) (t := 3) (Fld.of (by kernel_rfl)) rfl rfl rfl ?_
  refine W.loadB (v := .int .i64 x.round) rfl Try.underlying3 rfl hB9 rfl rfl ?_
  refine W.gtrI rfl rfl rfl ?_
  refine W.move rfl rfl ?_
  first | refine W.splitD (fun g16 => ?_) (fun g16 => ?_) | refine W.splitB (fun g16 => ?_) (fun g16 => ?_)
  · refine W.skips rfl rfl rfl rfl rfl rfl ?_
    refine W.skips rfl rfl rfl rfl rfl rfl ?_
    refine W.pickT rfl rfl rfl ?_
    refine W.assign rfl rfl ?_
    refine W.nil ?_
    refine At.thenCode ?_
    refine C.condT rfl ?_
    refine C.seq ?_
    refine C.region ?_
    refine W.assign rfl rfl ?_
    refine W.nil ?_
    refine At.thenCode ?_
    refine C.ret ?_
    refine At.blockRet ?_
    refine At.thenRet ?_
    refine At.ret1 Try.results29 rfl ?_
    refine ⟨?_, hXa⟩
    have : mayE s x = 1 := by unfold mayE; rw [if_pos (.inl (by omega))]
    rw [this]; rfl
  · refine W.wants rfl rfl rfl rfl ?_
    refine W.move rfl rfl ?_
    refine W.wants rfl rfl rfl rfl ?_
    refine W.eqlI rfl rfl rfl ?_
    refine W.pickF rfl rfl rfl ?_
    refine W.assign rfl rfl ?_
    refine W.nil ?_
    refine At.thenCode ?_
    first | refine C.condD rfl (fun c12 => ?_) (fun c12 => ?_) | refine C.cond rfl (fun c12 => ?_) (fun c12 => ?_)
    · refine C.seq ?_
      refine C.region ?_
      refine W.assign rfl rfl ?_
      refine W.nil ?_
      refine At.thenCode ?_
      refine C.ret ?_
      refine At.blockRet ?_
      refine At.thenRet ?_
      refine At.ret1 Try.results29 rfl ?_
      refine ⟨?_, hXa⟩
      have : mayE s x = 1 := by unfold mayE; rw [if_pos (.inr (by omega))]
      rw [this]; rfl
    · refine C.seq ?_
      refine C.region ?_
      refine W.move rfl rfl ?_
      refine W.neqI rfl rfl rfl ?_
      refine W.assign rfl rfl ?_
      refine W.nil ?_
      refine At.thenCode ?_
      first | refine C.condD rfl (fun c20 => ?_) (fun c20 => ?_) | refine C.cond rfl (fun c20 => ?_) (fun c20 => ?_)
      · refine C.seq ?_
        refine C.region ?_
        refine W.move rfl rfl ?_
        refine W.assign rfl rfl ?_
        refine W.nil ?_
        refine At.thenCode ?_
        refine C.ret ?_
        refine At.blockRet ?_
        refine At.thenRet ?_
        refine At.ret1 Try.results29 rfl ?_
        have h16 : ¬ (1099511627776 < x.round ∨ batE x = 1) := by omega
        refine ⟨?_, hXa⟩
        have : mayE s x = batE x := by unfold mayE; rw [if_neg h16, if_pos (by omega)]
        rw [this]; rfl
      · refine C.seq ?_
        refine C.regionAny 8 ((fun v w => v = .pointer (some ⟨g3, 0, none⟩)) :: (fun v w => v = .int .i64 x.round) :: (fun v w => v = .pointer (some ⟨g, 0, none⟩)) :: (fun v w => v = .pointer (some ⟨g, 0, none⟩)) :: (fun v w => v = .pointer (some ⟨g, 3, none⟩)) :: (fun v w => v = .int .i64 (s.past : Int)) :: (fun v w => v = .bool (decide (x.round < (s.past : Int)))) :: (fun v w => v = .bool (decide (x.round < (s.past : Int)))) :: []) [(0, .pointer (some ⟨g, 0, none⟩)), (3, .pointer (some ⟨g3, 0, none⟩))] [] (Sub.cons (rfl) (Sub.cons (rfl) (Sub.nil))) (Sub.nil) (Sub.cons (rfl) (Sub.cons (rfl) (Sub.nil))) (by kernel_rfl) rfl rfl rfl (And.intro (fun _ _ _ h _ => h) (And.intro (fun _ _ _ h _ => h) (And.intro (fun _ _ _ h _ => h) (And.intro (fun _ _ _ h _ => h) (And.intro (fun _ _ _ h _ => h) (And.intro (fun _ _ _ h _ => h) (And.intro (fun _ _ _ h _ => h) (And.intro (fun _ _ _ h _ => h) (trivial))))))))) ?_ ?_
        · refine And.intro ?_ ?_
          · intro L_ wr hX_ hs_ hf_ hd_
            refine W.step [(3, _)] (Sub.cons (hs_ _ _ rfl) (Sub.refl _)) ?_
            refine W.fieldB (off := 0) (size := 1) (t := 3) (Fld.of (by kernel_rfl)) rfl rfl rfl ?_
            refine W.nil ?_
            exact At.step (Ext.refl _) rfl
          refine And.intro ?_ ?_
          · intro L_ wr hX_ hs_ hf_ hd_
            obtain ⟨v0, e0, r0⟩ := hd_ 0 rfl
            obtain rfl : (.pointer (some ⟨g3, 0, none⟩) : Value) = v0 := Eq.symm r0
            refine W.step [(25, _)] (Sub.cons (e0 _ rfl) (Sub.refl _)) ?_
            refine W.loadB (v := .int .i64 x.round) rfl Try.underlying3 rfl (hB9.ext hX_) rfl rfl ?_
            refine W.nil ?_
            exact At.step (Ext.refl _) rfl
          refine And.intro ?_ ?_
          · intro L_ wr hX_ hs_ hf_ hd_
            refine W.step [(0, _)] (Sub.cons (hs_ _ _ rfl) (Sub.refl _)) ?_
            refine W.move rfl rfl ?_
            refine W.nil ?_
            exact At.step (Ext.refl _) rfl
          refine And.intro ?_ ?_
          · intro L_ wr hX_ hs_ hf_ hd_
            obtain ⟨v2, e2, r2⟩ := hd_ 2 rfl
            obtain rfl : (.pointer (some ⟨g, 0, none⟩) : Value) = v2 := Eq.symm r2
            refine W.step [(27, _)] (Sub.cons (e2 _ rfl) (Sub.refl _)) ?_
            refine W.nilCheck rfl rfl ?_
            refine W.nil ?_
            exact At.step (Ext.refl _) rfl
          refine And.intro ?_ ?_
          · intro L_ wr hX_ hs_ hf_ hd_
            obtain ⟨v3, e3, r3⟩ := hd_ 3 rfl
            obtain rfl : (.pointer (some ⟨g, 0, none⟩) : Value) = v3 := Eq.symm r3
            refine W.step [(28, _)] (Sub.cons (e3 _ rfl) (Sub.refl _)) ?_
            refine W.fieldB (off := 3) (size := 1) (t := 3) (Fld.of (by kernel_rfl)) rfl rfl rfl ?_
            refine W.nil ?_
            exact At.step (Ext.refl _) rfl
          refine And.intro ?_ ?_
          · intro L_ wr hX_ hs_ hf_ hd_
            obtain ⟨v4, e4, r4⟩ := hd_ 4 rfl
            obtain rfl : (.pointer (some ⟨g, 3, none⟩) : Value) = v4 := Eq.symm r4
            refine W.step [(29, _)] (Sub.cons (e4 _ rfl) (Sub.refl _)) ?_
            refine W.loadB (v := .int .i64 (s.past : Int)) rfl Try.underlying3 rfl (h1.ext hX_) rfl rfl ?_
            refine W.nil ?_
            exact At.step (Ext.refl _) rfl
          refine And.intro ?_ ?_
          · intro L_ wr hX_ hs_ hf_ hd_
            obtain ⟨v1, e1, r1⟩ := hd_ 1 rfl
            obtain rfl : (.int .i64 x.round : Value) = v1 := Eq.symm r1
            obtain ⟨v5, e5, r5⟩ := hd_ 5 rfl
            obtain rfl : (.int .i64 (s.past : Int) : Value) = v5 := Eq.symm r5
            refine W.step [(26, _), (30, _)] (Sub.cons (e1 _ rfl) (Sub.cons (e5 _ rfl) (Sub.refl _))) ?_
            refine W.lssI rfl rfl rfl ?_
            refine W.nil ?_
            exact At.step (Ext.refl _) rfl
          refine And.intro ?_ ?_
          · intro L_ wr hX_ hs_ hf_ hd_
            obtain ⟨v6, e6, r6⟩ := hd_ 6 rfl
            obtain rfl : (.bool (decide (x.round < (s.past : Int))) : Value) = v6 := Eq.symm r6
            refine W.step [(31, _)] (Sub.cons (e6 _ rfl) (Sub.refl _)) ?_
            refine W.assign rfl rfl ?_
            refine W.nil ?_
            exact At.step (Ext.refl _) rfl
          exact trivial
        · intro L_ wr hX6 hs_ hv_
          obtain ⟨v7, e7, r7⟩ := hv_ 7 (by decide)
          obtain rfl : (.bool (decide (x.round < (s.past : Int))) : Value) = v7 := Eq.symm r7
          refine W.weaken (l' := [(24, _), (0, _), (3, _)]) (Sub.cons (e7 _ rfl) (Sub.cons (hs_ _ _ rfl) (Sub.cons (hs_ _ _ rfl) (Sub.nil)))) ?_
          refine W.nil ?_
          refine At.thenCode ?_
          first | refine C.condD rfl (fun c24 => ?_) (fun c24 => ?_) | refine C.cond rfl (fun c24 => ?_) (fun c24 => ?_)
          · refine C.seq ?_
            refine C.region ?_
            refine W.assign rfl rfl ?_
            refine W.nil ?_
            refine At.thenCode ?_
            refine C.ret ?_
            refine At.blockRet ?_
            refine At.thenRet ?_
            refine At.ret1 Try.results29 rfl ?_
            have h16 : ¬ (1099511627776 < x.round ∨ batE x = 1) := by omega
            refine ⟨?_, hXa.ext hX6⟩
            have : mayE s x = 13 := by unfold mayE; rw [if_neg h16, if_neg (by omega), if_pos (by omega)]
            rw [this]; rfl
          · refine C.seq ?_
            refine C.region ?_
            refine W.move rfl rfl ?_
            refine W.fieldB (off := 0) (size := 1) (t := 3) (Fld.of (by kernel_rfl)) rfl rfl rfl ?_
            refine W.loadB (v := .int .i64 x.round) rfl Try.underlying3 rfl (hB9.ext hX6) rfl rfl ?_
            refine W.fieldB (off := 1) (size := 1) (t := 3) (Fld.of (by kernel_rfl)) rfl rfl rfl ?_
            refine W.loadB (v := .int .i64 x.chain) rfl Try.underlying3 rfl (hB9.ext hX6) rfl rfl ?_
            refine W.call Try.call16 rfl (Mbx.Has_ok F g dg s o x.round x.chain _ (hS9.ext hX6) hir hic) rfl ?_
            rintro v38 w38 ⟨rfl, rfl⟩
            refine W.assign rfl rfl ?_
            refine W.nil ?_
            refine At.thenCode ?_
            first | refine C.condD rfl (fun c32 => ?_) (fun c32 => ?_) | refine C.cond rfl (fun c32 => ?_) (fun c32 => ?_)
            · refine C.seq ?_
              refine C.region ?_
              refine W.assign rfl rfl ?_
              refine W.nil ?_
              refine At.thenCode ?_
              refine C.ret ?_
              refine At.blockRet ?_
              refine At.thenRet ?_
              refine At.ret1 Try.results29 rfl ?_
              have h16 : ¬ (1099511627776 < x.round ∨ batE x = 1) := by omega
              refine ⟨?_, hXa.ext hX6⟩
              have : mayE s x = 11 := by unfold mayE; rw [if_neg h16, if_neg (by omega), if_neg (by omega), if_pos (by simpa using c32)]
              rw [this]; rfl
            · refine C.skip ?_
              refine At.blockNormal ?_
              refine At.thenCode ?_
              refine C.seq ?_
              refine C.region ?_
              refine W.assign rfl rfl ?_
              refine W.nil ?_
              refine At.thenCode ?_
              refine C.ret ?_
              refine At.ret1 Try.results29 rfl ?_
              have h16 : ¬ (1099511627776 < x.round ∨ batE x = 1) := by omega
              refine ⟨?_, hXa.ext hX6⟩
              have : mayE s x = 0 := by unfold mayE; rw [if_neg h16, if_neg (by omega), if_neg (by omega), if_neg (by simpa using c32)]
              rw [this]; rfl
end Go.Proofs.Ythiijdbiikljpaa.Mbx
