/- A store and its disk as a law meets them: what its calls leave; the plain laws of a disk without faults. -/
import Derived.Test.YthiijdbiikljpaaMb13
namespace Go.Proofs.Ythiijdbiikljpaa.Mbx
open Go Go.RowKit Go.Proofs.Ythiijdbiikljpaa.KW Go.Proofs.Ythiijdbiikljpaa.Words Go.Proofs.Ythiijdbiikljpaa.Sha Go.Proofs.Ythiijdbiikljpaa.RSha Go.Proofs.Ythiijdbiikljpaa.Grp Go.Proofs.Ythiijdbiikljpaa.Cod Go.Proofs.Ythiijdbiikljpaa.Disk
set_option linter.unusedVariables false
set_option linter.unusedSimpArgs false
set_option maxRecDepth 100000
/-- Blocks that are new since w0 and not of Y. -/
def Fr (w0 : World) (Y : Nat → Prop) : Nat → Prop := fun k => ¬ Y k ∧ w0.heap.size ≤ k
/-- A disk alone: none of its blocks is of Y or older than w0. -/
structure LiveD (w0 w : World) (Y : Nat → Prop) (dg : Nat) (rv : Int) (D : Dsk) : Prop where
  out : ∃ Fd : Nat → Prop, Dk w Fd dg rv D ∧ ∀ k, Fd k → Fr w0 Y k
  ext : Ext w0 w
  y : ∀ k, Y k → k < w.heap.size
/-- A store and its disk. -/
structure Live (w0 w : World) (Y : Nat → Prop) (g dg : Nat) (rv : Int) (B : Box) : Prop where
  out : ∃ F Fd : Nat → Prop, St w F g dg B.s B.owed ∧ Dk w Fd dg rv B.D ∧ (∀ k, F k → ¬ Fd k) ∧ (∀ k, F k → Fr w0 Y k) ∧ ∀ k, Fd k → Fr w0 Y k
  ext : Ext w0 w
  y : ∀ k, Y k → k < w.heap.size
section
variable {w0 w w' : World} {Y : Nat → Prop} {g dg : Nat} {rv : Int} {B : Box} {D : Dsk}
theorem Live.disk (h : Live w0 w Y g dg rv B) : LiveD w0 w Y dg rv B.D := by
  obtain ⟨F, Fd, h1, h2, h3, h4, h5⟩ := h.out
  exact ⟨⟨Fd, h2, h5⟩, h.ext, h.y⟩
theorem Live.xt (h : Live w0 w Y g dg rv B) (x : Ext w w') : Live w0 w' Y g dg rv B := by
  obtain ⟨F, Fd, h1, h2, h3, h4, h5⟩ := h.out
  exact ⟨⟨F, Fd, h1.ext x, h2.ext x, h3, h4, h5⟩, h.ext.ext x, fun k hk => Nat.lt_of_lt_of_le (h.y k hk) x.size⟩
theorem LiveD.xt (h : LiveD w0 w Y dg rv D) (x : Ext w w') : LiveD w0 w' Y dg rv D := by
  obtain ⟨Fd, h1, h2⟩ := h.out
  exact ⟨⟨Fd, h1.ext x, h2⟩, h.ext.ext x, fun k hk => Nat.lt_of_lt_of_le (h.y k hk) x.size⟩
/-- Y and what was made from w to w'. -/
def More (Y : Nat → Prop) (w w' : World) : Nat → Prop := fun k => Y k ∨ (w.heap.size ≤ k ∧ k < w'.heap.size)
theorem Live.more (h : Live w0 w Y g dg rv B) (x : Ext w w') : Live w0 w' (More Y w w') g dg rv B := by
  obtain ⟨F, Fd, h1, h2, h3, h4, h5⟩ := h.out
  have hs := x.size
  refine ⟨⟨F, Fd, h1.ext x, h2.ext x, h3, fun k hk => ⟨fun hy => ?_, (h4 k hk).2⟩, fun k hk => ⟨fun hy => ?_, (h5 k hk).2⟩⟩, h.ext.ext x, fun k hk => ?_⟩
  · rcases hy with hy | hy
    · exact (h4 k hk).1 hy
    · have := h1.lt k hk; omega
  · rcases hy with hy | hy
    · exact (h5 k hk).1 hy
    · have := h2.lt k hk; omega
  · rcases hk with hk | hk
    · have := h.y k hk; omega
    · exact hk.2
theorem LiveD.more (h : LiveD w0 w Y dg rv D) (x : Ext w w') : LiveD w0 w' (More Y w w') dg rv D := by
  obtain ⟨Fd, h1, h2⟩ := h.out
  have hs := x.size
  refine ⟨⟨Fd, h1.ext x, fun k hk => ⟨fun hy => ?_, (h2 k hk).2⟩⟩, h.ext.ext x, fun k hk => ?_⟩
  · rcases hy with hy | hy
    · exact (h2 k hk).1 hy
    · have := h1.lt k hk; omega
  · rcases hk with hk | hk
    · have := h.y k hk; omega
    · exact hk.2
theorem Live.less {Y' : Nat → Prop} (h : Live w0 w Y g dg rv B) (hy : ∀ k, Y' k → Y k) : Live w0 w Y' g dg rv B := by
  obtain ⟨F, Fd, h1, h2, h3, h4, h5⟩ := h.out
  exact ⟨⟨F, Fd, h1, h2, h3, fun k hk => ⟨fun c => (h4 k hk).1 (hy k c), (h4 k hk).2⟩, fun k hk => ⟨fun c => (h5 k hk).1 (hy k c), (h5 k hk).2⟩⟩, h.ext, fun k hk => h.y k (hy k hk)⟩
/-- Changes in what is the law's own. -/
theorem Live.own {S : Nat → Prop} (h : Live w0 w Y g dg rv B) (c : Chg S w w') (hS : ∀ k, S k → Y k ∧ w0.heap.size ≤ k) : Live w0 w' Y g dg rv B := by
  obtain ⟨F, Fd, h1, h2, h3, h4, h5⟩ := h.out
  exact ⟨⟨F, Fd, h1.chg c (fun k hk hs => (h4 k hk).1 (hS k hs).1), h2.chg c (fun k hk hs => (h5 k hk).1 (hS k hs).1), h3, h4, h5⟩, h.ext.news c fun k hk => .inr (hS k hk).2, fun k hk => Nat.lt_of_lt_of_le (h.y k hk) c.size⟩
theorem Live.both {B' : Box} {F Fd : Nat → Prop} (h : Live w0 w Y g dg rv B) (h4 : ∀ k, F k → Fr w0 Y k) (h5 : ∀ k, Fd k → Fr w0 Y k) (hb : Both F Fd g dg rv B' w w') : Live w0 w' Y g dg rv B' ∧ Chg (Fr w0 Y) w w' := by
  obtain ⟨F', Fd', q1, q2, q3, q4, q5⟩ := hb.out
  have hs := h.ext.size
  have hc : Chg (Fr w0 Y) w w' := hb.chg.mono fun k hk => hk.elim (h4 k) (h5 k)
  have hn : ∀ k, w.heap.size ≤ k → Fr w0 Y k := fun k hk => ⟨fun hy => by have := h.y k hy; omega, by omega⟩
  exact ⟨⟨⟨F', Fd', q1, q2, q5, fun k hk => (q3 k hk).elim (h4 k) (hn k), fun k hk => (q4 k hk).elim (h5 k) (hn k)⟩, h.ext.news hc fun k hk => .inr hk.2, fun k hk => Nat.lt_of_lt_of_le (h.y k hk) hc.size⟩, hc⟩
theorem Live.Accept (h : Live w0 w Y g dg rv B) (hrv : 0 ≤ rv) {x : BatD} {vi vl : Value} {ap : Option Addr} {cp : Nat} {ps : List Nat} (hb : BatM (Fr w0 Y) w x vi vl) (hp : Els (fun _ => False) w 10 RPub ap cp ps) (hpl : ps.length ≤ 9223372036854775807) (hbl : (batB x).length ≤ 900000) (hDl : B.D.bs.length ≤ 1000000000) (hsl : B.s.l.length ≤ 1000000000) :
    Ct Try.prog 11 #[.pointer (some ⟨g, 0, none⟩), .agg (batC x vi vl).toArray, .slice ap ps.length cp] w (fun v w' => v = .int .i64 (acceptE B x ps : Int) ∧ Live w0 w' Y g dg rv (acceptB B x ps) ∧ Chg (Fr w0 Y) w w') := by
  obtain ⟨F, Fd, h1, h2, h3, h4, h5⟩ := h.out
  refine (Accept_ok F Fd g dg rv B x vi vl ap cp ps w h1 h2 h3 hrv (hb.new fun k hk _ => hk.elim (h4 k) (h5 k)) hp hpl hbl hDl hsl).mono ?_
  rintro v w' ⟨rfl, hB⟩
  exact ⟨rfl, h.both h4 h5 hB⟩
theorem Live.Expire (h : Live w0 w Y g dg rv B) (hrv : 0 ≤ rv) {r : Int} (hDl : B.D.bs.length ≤ 1000000000) (hsl : B.s.l.length ≤ 1000000000) (hri : InI r) :
    Ct Try.prog 15 #[.pointer (some ⟨g, 0, none⟩), .int .i64 r] w (fun v w' => v = .int .i64 (expireE B r : Int) ∧ Live w0 w' Y g dg rv (expireB B r) ∧ Chg (Fr w0 Y) w w') := by
  obtain ⟨F, Fd, h1, h2, h3, h4, h5⟩ := h.out
  refine (Expire_ok F Fd g dg rv B r w h1 h2 h3 hrv hDl hsl hri).mono ?_
  rintro v w' ⟨rfl, hB⟩
  exact ⟨rfl, h.both h4 h5 hB⟩
theorem Live.Has (h : Live w0 w Y g dg rv B) {r c : Int} (hr : InI r) (hc : InI c) :
    Ct Try.prog 16 #[.pointer (some ⟨g, 0, none⟩), .int .i64 r, .int .i64 c] w (fun v w' => v = .bool (hasL B.s.l r c) ∧ w = w') := by
  obtain ⟨F, Fd, h1, _⟩ := h.out
  exact Has_ok F g dg B.s B.owed r c w h1 hr hc
theorem Live.Len (h : Live w0 w Y g dg rv B) :
    Ct Try.prog 17 #[.pointer (some ⟨g, 0, none⟩)] w (fun v w' => v = .int .i64 (B.s.l.length : Int) ∧ w = w') := by
  obtain ⟨F, Fd, h1, _⟩ := h.out
  exact Len_ok F g dg B.s B.owed w h1
theorem Live.Fetch (h : Live w0 w Y g dg rv B) {name : List UInt8} {a c : Int} (hn : name.length = 32) (ha : InI a) (hc : InI c) (hsl : B.s.l.length ≤ 1000000000) :
    Ct Try.prog 20 #[.pointer (some ⟨g, 0, none⟩), keyV name, .int .i64 a, .int .i64 c] w (fun v w' => ∃ ao co, v = .slice ao (fetchL B.s.l name a c).length co ∧ Els (fun k => k < w.heap.size) w' 33 RLet ao co (fetchL B.s.l name a c) ∧ Ext w w') := by
  obtain ⟨F, Fd, h1, _⟩ := h.out
  exact Fetch_ok F g dg B.s B.owed name a c w h1 hn ha hc hsl
theorem LiveD.Open (h : LiveD w0 w Y dg rv D) (hl : D.bs.length ≤ 1000000) :
    Ct Try.prog 10 #[.pointer (some ⟨dg, 0, none⟩)] w (fun v w' => ∃ g, v = .pointer (some ⟨g, 0, none⟩) ∧ Live w0 w' Y g dg rv (openB D) ∧ Chg (Fr w0 Y) w w') := by
  obtain ⟨Fd, h1, h2⟩ := h.out
  refine (Open_ok Fd dg rv D w h1 hl).mono ?_
  rintro v w' ⟨g, rfl, ho⟩
  obtain ⟨F', Fd', q1, q2, q3, q4, q5⟩ := ho.out
  have hs := h.ext.size
  have hc : Chg (Fr w0 Y) w w' := ho.chg.mono h2
  have hn : ∀ k, w.heap.size ≤ k → Fr w0 Y k := fun k hk => ⟨fun hy => by have := h.y k hy; omega, by omega⟩
  exact ⟨g, rfl, ⟨⟨F', Fd', q1, q2, q4, fun k hk => hn k (q3 k hk), fun k hk => (q5 k hk).elim (h2 k) (hn k)⟩, h.ext.news hc fun k hk => .inr hk.2, fun k hk => Nat.lt_of_lt_of_le (h.y k hk) hc.size⟩, hc⟩
theorem LiveD.New (room : Int) (hx : Ext w0 w) (hY : ∀ k, Y k → k < w.heap.size) (hr : -9223372036854775808 ≤ room ∧ room ≤ 9223372036854775807) :
    Ct Try.prog 9 #[.int .i64 room] w (fun v w' => ∃ dg, v = .pointer (some ⟨dg, 0, none⟩) ∧ LiveD w0 w' Y dg (max 0 room) ⟨room.toNat, [], 0, []⟩ ∧ Ext w w') := by
  refine (Disk.New_ok room w hr).mono ?_
  rintro v w' ⟨dg, rfl, hD, hX⟩
  have hs := hx.size
  exact ⟨dg, rfl, ⟨⟨_, hD, fun k hk => by rcases hk with hk | hk; exact hk.elim; exact ⟨fun hy => by have := hY k hy; omega, by omega⟩⟩, hx.ext hX, fun k hk => Nat.lt_of_lt_of_le (hY k hk) hX.size⟩, hX⟩
end
theorem Fr.els {α : Type} {R : RdT α} (hR : RdOk R) {w0 w : World} {Y : Nat → Prop} {sz c : Nat} {a : Option Addr} {xs : List α} (h : Els (fun _ => False) w0 sz R a c xs) (x : Ext w0 w) : Els (Fr w0 Y) w sz R a c xs := (h.new hR (B := Fr w0 Y) fun k hk hl => by have := hk.2; omega).ext hR x

/-! ### disks without faults -/
def replay : Bag → List (List UInt8) → Option Bag
  | s, [] => some s
  | s, p :: r => match againS s p with
    | none => none
    | some s' => replay s' r
theorem replay_snoc : ∀ (ps : List (List UInt8)) (s s' s'' : Bag) (p : List UInt8), replay s ps = some s' → againS s' p = some s'' → replay s (ps ++ [p]) = some s''
  | [], s, s', s'', p, h, h' => by
    obtain rfl := Option.some.inj h
    show (match againS s p with | none => none | some s' => replay s' []) = _
    rw [h']; rfl
  | q :: r, s, s', s'', p, h, h' => by
    unfold replay at h
    cases hq : againS s q with
    | none => rw [hq] at h; cases h
    | some s1 =>
      rw [hq] at h
      show (match againS s q with | none => none | some s' => replay s' (r ++ [p])) = _
      rw [hq]
      exact replay_snoc r s1 s' s'' p h h'
def recsB (ps : List (List UInt8)) : List UInt8 := ps.flatMap recB
theorem recsB_snoc (ps : List (List UInt8)) (p : List UInt8) : recsB (ps ++ [p]) = recsB ps ++ recB p := by simp [recsB, List.flatMap_append]
/-- Whole records are read, one by one, up to what stops it. -/
theorem scan_recs : ∀ (ps : List (List UInt8)) (s s' : Bag) (t : List UInt8), (∀ p ∈ ps, p.length < 4294967296) → replay s ps = some s' → scanS s (recsB ps ++ t) = ((scanS s' t).1, (recsB ps).length + (scanS s' t).2)
  | [], s, s', t, _, h => by
    obtain rfl := Option.some.inj h
    show scanS s ([] ++ t) = _
    rw [List.nil_append]
    show _ = (_, 0 + _)
    rw [Nat.zero_add]
  | p :: r, s, s', t, hl, h => by
    unfold replay at h
    cases hp : againS s p with
    | none => rw [hp] at h; cases h
    | some s1 =>
      rw [hp] at h
      have e : recsB (p :: r) ++ t = recB p ++ (recsB r ++ t) := by show (recB p ++ recsB r) ++ t = _; rw [List.append_assoc]
      have h1 := rec1_recB (hl p (by simp)) (recsB r ++ t)
      have hd : (recB p ++ (recsB r ++ t)).drop (12 + p.length) = recsB r ++ t := by
        rw [List.drop_append_of_le_length (by rw [recB_length]; exact Nat.le_refl _), List.drop_of_length_le (by rw [recB_length]; exact Nat.le_refl _), List.nil_append]
      rw [e, scanS_step h1 hp, hd, scan_recs r s1 s' t (fun q hq => hl q (by simp [hq])) h]
      have e2 : (recsB (p :: r)).length = 12 + p.length + (recsB r).length := by
        show (recB p ++ recsB r).length = _
        rw [List.length_append, recB_length]
      rw [e2]
      simp only [Nat.add_assoc]
theorem scanS_nil (s : Bag) : scanS s [] = (s, 0) := scanS_stop (.inl (by unfold rec1; rw [if_pos (by decide)]))
theorem again_accept {s : Bag} {x : BatD} (h : mayE s x = 0) (ho : BatOk x) : againS s (1 :: batB x) = some (takeS s x) := by
  obtain ⟨h1, h2⟩ := bat_read x (mayE_zero h).2.1 ho
  rw [again_1, if_pos ⟨h1, by rw [h2]; exact h⟩, h2]
theorem again_expire (s : Bag) {r : Nat} (h : r ≤ 1099511627776) : againS s (2 :: be64 r) = some (goneS s r) := by
  have hb := beNat_be64 r (by omega)
  rw [again_2, hb, if_pos ⟨be64_length r, h⟩]
/-- A disk without faults whose bytes are whole records that give what the store holds; all of it synced. -/
structure Good (B : Box) (ps : List (List UInt8)) : Prop where
  owed : B.owed = none
  fails : B.D.fails = []
  bytes : B.D.bs = recsB ps
  syn : B.D.syn = B.D.bs.length
  small : ∀ p ∈ ps, p.length < 4294967296
  replay : replay ⟨[], 0⟩ ps = some B.s
theorem open_recs {D : Dsk} {ps : List (List UInt8)} {s : Bag} (hb : D.bs = recsB ps) (hs : ∀ p ∈ ps, p.length < 4294967296) (hr : replay ⟨[], 0⟩ ps = some s) : openB D = ⟨D, s, none⟩ := by
  have h1 : scanS ⟨[], 0⟩ D.bs = (s, D.bs.length) := by
    have := scan_recs ps ⟨[], 0⟩ s [] hs hr
    rw [scanS_nil] at this
    rw [hb]
    simpa using this
  unfold openB
  rw [h1]
  simp
theorem Good.open {B : Box} {ps : List (List UInt8)} (h : Good B ps) : openB B.D = B := by
  rw [open_recs h.bytes h.small h.replay]
  cases B
  simp only [Box.mk.injEq, true_and]
  exact h.owed.symm
theorem Good.new (room : Nat) : openB ⟨room, [], 0, []⟩ = ⟨⟨room, [], 0, []⟩, ⟨[], 0⟩, none⟩ ∧ Good ⟨⟨room, [], 0, []⟩, ⟨[], 0⟩, none⟩ [] := by
  have h : Good ⟨⟨room, [], 0, []⟩, ⟨[], 0⟩, none⟩ [] := ⟨rfl, rfl, rfl, rfl, fun p hp => by simp at hp, rfl⟩
  exact ⟨h.open, h⟩
theorem Good.keep {B : Box} {ps : List (List UInt8)} (h : Good B ps) {p : List UInt8} {s' : Bag} (hp : p.length < 4294967296) (ha : againS B.s p = some s') (hr : B.D.bs.length + 12 + p.length ≤ B.D.room) :
    keepE B p = 0 ∧ Good ⟨(keepB B p).D, s', (keepB B p).owed⟩ (ps ++ [p]) ∧ (keepB B p).D.room = B.D.room ∧ (keepB B p).D.bs.length = B.D.bs.length + 12 + p.length := by
  obtain ⟨⟨room, bs, syn, fails⟩, s, owed⟩ := B
  obtain ⟨h1, h2, h3, h4, h5, h6⟩ := h
  simp only at h1 h2 h3 h4 h6 ha hr
  subst h1; subst h2; subst h4
  have hset : settleE ⟨⟨room, bs, bs.length, []⟩, s, none⟩ = 0 := rfl
  have hsetB : settleB ⟨⟨room, bs, bs.length, []⟩, s, none⟩ = ⟨⟨room, bs, bs.length, []⟩, s, none⟩ := rfl
  have hnf : ¬ Full (⟨room, bs, bs.length, []⟩ : Dsk) (recB p).length := by
    unfold Full; simp only [recB_length]; omega
  have hne : ¬ (failB (⟨room, bs, bs.length, []⟩ : Dsk) = true ∨ Full (⟨room, bs, bs.length, []⟩ : Dsk) (recB p).length) := by
    rintro (h | h)
    · cases h
    · exact hnf h
  have hae : appE (⟨room, bs, bs.length, []⟩ : Dsk) (recB p) = 0 := by unfold appE; rw [if_neg hne]
  have had : appD (⟨room, bs, bs.length, []⟩ : Dsk) (recB p) = ⟨room, bs ++ recB p, bs.length, []⟩ := by unfold appD; rw [if_neg hne]; rfl
  have hse : synE (⟨room, bs ++ recB p, bs.length, []⟩ : Dsk) = 0 := rfl
  have hsd : synD (⟨room, bs ++ recB p, bs.length, []⟩ : Dsk) = ⟨room, bs ++ recB p, (bs ++ recB p).length, []⟩ := rfl
  have hpe : putE (⟨room, bs, bs.length, []⟩ : Dsk) p = 0 := by unfold putE; rw [if_pos hae, had, hse]
  have hpd : putD (⟨room, bs, bs.length, []⟩ : Dsk) p = ⟨room, bs ++ recB p, (bs ++ recB p).length, []⟩ := by unfold putD; rw [if_pos hae, had, hsd]
  have hke : keepE ⟨⟨room, bs, bs.length, []⟩, s, none⟩ p = 0 := by unfold keepE; rw [if_pos hset, hsetB, hpe]
  have hkb : keepB ⟨⟨room, bs, bs.length, []⟩, s, none⟩ p = ⟨⟨room, bs ++ recB p, (bs ++ recB p).length, []⟩, s, none⟩ := by unfold keepB; rw [if_pos hset, hsetB]; unfold putB; rw [if_pos hpe, hpd]
  rw [hke, hkb]
  refine ⟨rfl, ⟨rfl, rfl, by rw [recsB_snoc, ← h3], rfl, fun q hq => ?_, replay_snoc ps _ _ _ _ h6 ha⟩, rfl, by simp only [List.length_append, recB_length]; omega⟩
  rcases List.mem_append.1 hq with hq | hq
  · exact h5 q hq
  · obtain rfl := List.mem_singleton.1 hq; exact hp
theorem Good.accept {B : Box} {ps : List (List UInt8)} (h : Good B ps) {x : BatD} {pubs : List Nat} (hm : mayE B.s x = 0) (ho : BatOk x) (hp : provedB x.inner pubs = true) (hl : (batB x).length ≤ 900000) (hr : B.D.bs.length + 13 + (batB x).length ≤ B.D.room) :
    acceptE B x pubs = 0 ∧ Good (acceptB B x pubs) (ps ++ [1 :: batB x]) ∧ (acceptB B x pubs).s = takeS B.s x ∧ (acceptB B x pubs).D.room = B.D.room ∧ (acceptB B x pubs).D.bs.length = B.D.bs.length + 13 + (batB x).length := by
  have hlen : (1 :: batB x).length = (batB x).length + 1 := rfl
  obtain ⟨h1, h2, h3, h4⟩ := h.keep (p := 1 :: batB x) (by omega) (again_accept hm ho) (by omega)
  have e1 : acceptE B x pubs = 0 := by unfold acceptE; rw [if_neg (by omega), if_neg (by rw [hp]; decide), h1]
  have e2 : acceptB B x pubs = ⟨(keepB B (1 :: batB x)).D, takeS B.s x, (keepB B (1 :: batB x)).owed⟩ := by unfold acceptB; rw [if_neg (by rintro (c | c); exact c hm; rw [hp] at c; cases c), if_pos h1]
  rw [e1, e2]
  exact ⟨rfl, h2, rfl, h3, by show (keepB B (1 :: batB x)).D.bs.length = _; omega⟩
theorem accept_may {B : Box} {x : BatD} {pubs : List Nat} (hm : mayE B.s x ≠ 0) : acceptE B x pubs = mayE B.s x ∧ acceptB B x pubs = B := ⟨by unfold acceptE; rw [if_pos hm], by unfold acceptB; rw [if_pos (.inl hm)]⟩
theorem accept_proof {B : Box} {x : BatD} {pubs : List Nat} (hm : mayE B.s x = 0) (hp : provedB x.inner pubs = false) : acceptE B x pubs = 10 ∧ acceptB B x pubs = B := ⟨by unfold acceptE; rw [if_neg (by omega), if_pos hp], by unfold acceptB; rw [if_pos (.inr hp)]⟩
theorem Good.expire {B : Box} {ps : List (List UInt8)} (h : Good B ps) {r : Int} (hr0 : 0 ≤ r) (hr1 : r ≤ 1099511627776) (hr : B.D.bs.length + 21 ≤ B.D.room) :
    ∃ ps', expireE B r = 0 ∧ Good (expireB B r) ps' ∧ (expireB B r).s = goneS B.s r.toNat ∧ (expireB B r).D.bs.length ≤ B.D.bs.length + 21 := by
  by_cases hp : r ≤ (B.s.past : Int)
  · have e1 : expireE B r = 0 := by unfold expireE; rw [if_neg (by omega), if_pos hp]
    have e2 : expireB B r = B := by unfold expireB; rw [if_pos (by omega)]
    rw [e1, e2]
    exact ⟨ps, rfl, h, by unfold goneS; rw [if_pos (by omega)], by omega⟩
  · have hlen : (2 :: be64 r.toNat).length = 9 := rfl
    obtain ⟨h1, h2, h3, h4⟩ := h.keep (p := 2 :: be64 r.toNat) (by omega) (again_expire B.s (r := r.toNat) (by omega)) (by omega)
    have e1 : expireE B r = 0 := by unfold expireE; rw [if_neg (by omega), if_neg hp, h1]
    have e2 : expireB B r = ⟨(keepB B (2 :: be64 r.toNat)).D, goneS B.s r.toNat, (keepB B (2 :: be64 r.toNat)).owed⟩ := by unfold expireB; rw [if_neg (by omega), if_pos h1]
    rw [e1, e2]
    exact ⟨_, rfl, h2, rfl, by show (keepB B (2 :: be64 r.toNat)).D.bs.length ≤ _; omega⟩
end Go.Proofs.Ythiijdbiikljpaa.Mbx
