/- Memory: what has changed between two worlds, slices that read as lists, rows that a call owns, whole blocks; and the walk's lemmas on them. -/
import Derived.Test.YthiijdbiikljpaaKn
import Derived.Laws.OwnMore
import Derived.Laws.CopyOwn
import Derived.Deep.Draws
namespace Go.Proofs.Ythiijdbiikljpaa.KW
open Go Go.RowKit
set_option linter.unusedVariables false
set_option linter.unusedSimpArgs false

/-! ### What has changed -/
/-- The world has changed in the blocks of S alone; there may be new ones. -/
structure Chg (S : Nat → Prop) (w w' : World) : Prop where
  os : w'.os = w.os
  tape : w'.tape = w.tape
  output : w'.output = w.output
  size : w.heap.size ≤ w'.heap.size
  block : ∀ k, k < w.heap.size → ¬ S k → w'.heap[k]? = w.heap[k]?
/-- Nothing that was there has changed. -/
abbrev Ext (w w' : World) : Prop := Chg (fun _ => False) w w'

theorem Chg.refl (S : Nat → Prop) (w : World) : Chg S w w := ⟨rfl, rfl, rfl, Nat.le_refl _, fun _ _ _ => rfl⟩
theorem Ext.refl (w : World) : Ext w w := Chg.refl _ w
theorem Chg.mono {S T : Nat → Prop} {w w' : World} (h : Chg S w w') (hs : ∀ k, S k → T k) : Chg T w w' := ⟨h.os, h.tape, h.output, h.size, fun k hk hn => h.block k hk fun c => hn (hs k c)⟩
theorem Chg.trans {S : Nat → Prop} {a b c : World} (h : Chg S a b) (g : Chg S b c) : Chg S a c :=
  ⟨g.os.trans h.os, g.tape.trans h.tape, g.output.trans h.output, Nat.le_trans h.size g.size, fun k hk hn => (g.block k (Nat.lt_of_lt_of_le hk h.size) hn).trans (h.block k hk hn)⟩
/-- Changes in what is new since the first world do not count. -/
theorem Chg.news {S T : Nat → Prop} {a b c : World} (h : Chg S a b) (g : Chg T b c) (ht : ∀ k, T k → S k ∨ a.heap.size ≤ k) : Chg S a c :=
  ⟨g.os.trans h.os, g.tape.trans h.tape, g.output.trans h.output, Nat.le_trans h.size g.size, fun k hk hn => (g.block k (Nat.lt_of_lt_of_le hk h.size) fun c => (ht k c).elim hn fun c => by omega).trans (h.block k hk hn)⟩
theorem Chg.ext {S : Nat → Prop} {a b c : World} (h : Chg S a b) (g : Ext b c) : Chg S a c := h.news g fun k hk => hk.elim
theorem Chg.of_grown {w w' : World} {row : Option Nat} (h : w.grownBy w' row) : Chg (fun k => some k = row) w w' := ⟨h.os, h.tape, h.output, h.size, fun k hk hn => h.block k hk hn⟩
theorem Chg.to_grown {w w' : World} {row : Option Nat} {S : Nat → Prop} (h : Chg S w w') (hs : ∀ k, S k → some k = row) : w.grownBy w' row := ⟨h.os, h.tape, h.output, h.size, fun k hk hn => h.block k hk fun c => hn (hs k c)⟩
theorem Ext.grown {w w' : World} (h : Ext w w') (row : Option Nat) : w.grownBy w' row := h.to_grown fun k hk => hk.elim
theorem Ext.below {w w' : World} (h : Ext w w') : Below w.heap.size w w' := ⟨h.os, h.tape, h.output, h.size, fun k hk => h.block k hk fun c => c⟩
theorem Ext.of_below {w w' : World} (h : Below w.heap.size w w') : Ext w w' := ⟨h.os, h.tape, h.output, h.size, fun k hk _ => h.block k hk⟩
theorem Ext.alloc (w : World) (o : Obj) : Ext w (w.alloc o) := Ext.of_below ((Below.refl _ _).alloc (Nat.le_refl _) o)
theorem Ext.drewN (w : World) (n : Nat) : Ext w (w.drewN n) := ⟨rfl, rfl, rfl, Nat.le_refl _, fun _ _ _ => rfl⟩
theorem Ext.drew (w : World) : Ext w w.drew := ⟨rfl, rfl, rfl, Nat.le_refl _, fun _ _ _ => rfl⟩

/-! ### Cells -/
theorem add_block (ad : Addr) (n : Nat) : (ad.add n).block = ad.block := by unfold Addr.add; split <;> rfl
theorem add_spot {ad : Addr} (h : ad.spot = none) (n : Nat) : (ad.add n).spot = none := by unfold Addr.add; split <;> simp_all
theorem add_mk (b o n : Nat) : (⟨b, o, none⟩ : Addr).add n = ⟨b, o + n, none⟩ := by unfold Addr.add; split <;> simp_all
theorem add_add (ad : Addr) (m n : Nat) : (ad.add m).add n = ad.add (m + n) := by
  unfold Addr.add
  by_cases hi : m = 0 <;> by_cases hj : n = 0 <;> simp [hi, hj, Nat.add_assoc]
theorem add_zero' (ad : Addr) : ad.add 0 = ad := by unfold Addr.add; rw [if_pos rfl]

def Cells (w : World) (ad : Addr) (cs : List Value) : Prop := ∀ j u, cs[j]? = some u → w.cell? (ad.add j) = some u
theorem cell_lt {w : World} {a : Addr} {v : Value} (h : w.cell? a = some v) : a.block < w.heap.size := World.block_lt_of_cell? w a h
theorem Chg.cell {S : Nat → Prop} {w w' : World} (c : Chg S w w') {a : Addr} {v : Value} (h : w.cell? a = some v) (hn : ¬ S a.block) : w'.cell? a = some v :=
  (World.cell?_of_block (c.block a.block (cell_lt h) hn)).trans h
theorem Cells.chg {S : Nat → Prop} {w w' : World} {ad : Addr} {cs : List Value} (h : Cells w ad cs) (c : Chg S w w') (hn : ¬ S ad.block) : Cells w' ad cs :=
  fun j u hu => c.cell (h j u hu) (by rw [add_block]; exact hn)
theorem Cells.drop {w : World} {ad : Addr} {cs : List Value} (h : Cells w ad cs) (m : Nat) : Cells w (ad.add m) (cs.drop m) := by
  intro j u hu
  rw [add_add]
  exact h (m + j) u (by simpa using hu)
theorem Cells.take {w : World} {ad : Addr} {cs : List Value} (h : Cells w ad cs) (m : Nat) : Cells w ad (cs.take m) := by
  intro j u hu
  rw [List.getElem?_take] at hu
  split at hu
  · exact h j u hu
  · cases hu

theorem Cells.spot {w : World} {ad : Addr} {cs : List Value} (h : Cells w ad cs) (hn : cs ≠ []) : ad.spot = none := by
  obtain ⟨v, r, rfl⟩ := List.exists_cons_of_ne_nil hn
  have h0 := h 0 v rfl
  rw [add_zero'] at h0
  unfold World.cell? at h0
  split at h0
  · cases hs : ad.spot with
    | none => rfl
    | some s => rw [hs] at h0; simp at h0
  · cases h0
/-- The slice '.slice ao n c' of elements of sz cells reads as the cells cs. -/
structure Sl (w : World) (ao : Option Addr) (n c sz : Nat) (cs : List Value) : Prop where
  le : n ≤ c
  len : cs.length = n * sz
  nil : ao = none → c = 0
  at_ : ∀ ad, ao = some ad → Cells w ad cs
theorem Sl.none (w : World) (sz : Nat) : Sl w none 0 0 sz [] := ⟨Nat.le_refl _, by simp, fun _ => rfl, fun ad h => by cases h⟩
theorem Sl.chg {S : Nat → Prop} {w w' : World} {ao : Option Addr} {n c sz : Nat} {cs : List Value} (h : Sl w ao n c sz cs) (g : Chg S w w') (hn : ∀ ad, ao = some ad → cs ≠ [] → ¬ S ad.block) : Sl w' ao n c sz cs :=
  ⟨h.le, h.len, h.nil, fun ad e => by
    by_cases hc : cs = []
    · subst hc; intro j u hu; simp at hu
    · exact (h.at_ ad e).chg g (hn ad e hc)⟩
theorem Sl.ext {w w' : World} {ao : Option Addr} {n c sz : Nat} {cs : List Value} (h : Sl w ao n c sz cs) (g : Ext w w') : Sl w' ao n c sz cs := h.chg g fun _ _ _ c => c
theorem Sl.blk {w : World} {ao : Option Addr} {n c sz : Nat} {cs : List Value} (h : Sl w ao n c sz cs) {ad : Addr} (e : ao = some ad) (hc : cs ≠ []) : ad.block < w.heap.size := by
  obtain ⟨v, r, rfl⟩ := List.exists_cons_of_ne_nil hc
  have := cell_lt ((h.at_ ad e) 0 v rfl)
  rwa [add_block] at this
/-- over changes in what is new since w0 alone. -/
theorem Sl.below {w0 w : World} {ao : Option Addr} {n c sz : Nat} {cs : List Value} (h : Sl w0 ao n c sz cs) (g : Below w0.heap.size w0 w) : Sl w ao n c sz cs := h.ext (Ext.of_below g)

/-- A part of it. -/
theorem Sl.sub {w : World} {ao : Option Addr} {n c sz : Nat} {cs : List Value} (h : Sl w ao n c sz cs) (lo hi : Nat) (h1 : lo ≤ hi) (h2 : hi ≤ n) :
    Sl w (if c = lo then ao else ao.map (·.add (lo * sz))) (hi - lo) (c - lo) sz ((cs.drop (lo * sz)).take ((hi - lo) * sz)) := by
  have hle := h.le
  refine ⟨by omega, ?_, ?_, ?_⟩
  · rw [List.length_take, List.length_drop, h.len, ← Nat.sub_mul]
    exact Nat.min_eq_left (Nat.mul_le_mul_right _ (by omega))
  · intro e
    split at e
    · have := h.nil e; omega
    · have := h.nil (by simpa using e); omega
  · intro ad e
    split at e
    · rename_i hc
      obtain rfl : hi = lo := by omega
      intro j u hu
      simp at hu
    · cases ao with
      | none => cases e
      | some a =>
        obtain rfl := Option.some.inj e
        exact ((h.at_ a rfl).drop _).take _

/-! ### Bytes -/
def byteV (b : UInt8) : Value := .int .u8 ((b.toNat : Nat) : Int)
abbrev Bs (w : World) (ao : Option Addr) (c : Nat) (xs : List UInt8) : Prop := Sl w ao xs.length c 1 (xs.map byteV)
theorem Bs.sub {w : World} {ao : Option Addr} {c : Nat} {xs : List UInt8} (h : Bs w ao c xs) (lo hi : Nat) (h1 : lo ≤ hi) (h2 : hi ≤ xs.length) :
    Bs w (if c = lo then ao else ao.map (·.add lo)) (c - lo) ((xs.drop lo).take (hi - lo)) := by
  have := Sl.sub h lo hi h1 h2
  rw [Nat.mul_one, Nat.mul_one, ← List.map_drop, ← List.map_take] at this
  have e : ((xs.drop lo).take (hi - lo)).length = hi - lo := by rw [List.length_take, List.length_drop]; omega
  show Sl _ _ _ _ _ _
  rw [e]
  exact this

/-! ### Rows that are owned -/
/-- The slice v is nil, or begins at the head of a block from base on that is not frozen, whose first cells are cs. -/
abbrev Ow (w : World) (base e : Nat) (v : Value) (xs : List UInt8) : Prop := w.ownsRow base e 1 v xs.length (xs.map byteV)
theorem ownsRow_chg {S : Nat → Prop} {w w' : World} {base e sz n : Nat} {v : Value} {cs : List Value} (h : w.ownsRow base e sz v n cs) (g : Chg S w w') (hn : ∀ k, v.ownBlock = some k → ¬ S k) : w'.ownsRow base e sz v n cs := by
  refine ⟨h.1, ?_⟩
  rcases h.2 with hn' | ⟨b, cap, cur, rfl, hb, hgg, rest⟩
  · exact .inl hn'
  · refine .inr ⟨b, cap, cur, rfl, hb, ?_, rest⟩
    rw [g.block b (Array.getElem?_eq_some_iff.1 hgg).1 (hn b rfl)]
    exact hgg
theorem ownsRow_ext {w w' : World} {base e sz n : Nat} {v : Value} {cs : List Value} (h : w.ownsRow base e sz v n cs) (g : Ext w w') : w'.ownsRow base e sz v n cs := ownsRow_chg h g fun _ _ c => c
theorem ownsRow_base {w : World} {base base' e sz n : Nat} {v : Value} {cs : List Value} (h : w.ownsRow base e sz v n cs) (hb : base' ≤ base) : w.ownsRow base' e sz v n cs := by
  refine ⟨h.1, ?_⟩
  rcases h.2 with hn' | ⟨b, cap, cur, rfl, hb', rest⟩
  · exact .inl hn'
  · exact .inr ⟨b, cap, cur, rfl, by omega, rest⟩
/-- What is owned reads. -/
theorem ownsRow_form {w : World} {base e sz n : Nat} {v : Value} {cs : List Value} (h : w.ownsRow base e sz v n cs) : ∃ ao c, v = .slice ao n c ∧ Sl w ao n c sz cs ∧ ∀ ad, ao = some ad → base ≤ ad.block := by
  rcases h.2 with ⟨rfl, rfl⟩ | ⟨g, cap, cur, rfl, hb, hg, hnc, hcm, hcs, htake⟩
  · have : cs = [] := List.eq_nil_of_length_eq_zero (by simpa using h.1)
    subst this
    exact ⟨none, 0, rfl, Sl.none w sz, fun ad e => by cases e⟩
  · refine ⟨some ⟨g, 0, none⟩, cap, rfl, ⟨hnc, h.1, (fun e => by cases e), ?_⟩, ?_⟩
    · intro ad e
      obtain rfl := Option.some.inj e
      exact h.cells rfl
    · intro ad e
      obtain rfl := Option.some.inj e
      exact hb
theorem Ow.nil (w : World) (base e : Nat) : Ow w base e (.slice none 0 0) [] := World.ownsRow_nil w base e 1

section
variable {P : Program} {N : Nat} {Q : Exit → Act → World → Prop} {l : Env} {w : World} {ops : Array Oper} {rest : List Oper} {d : Tmp} {ty : TypeId} {pos : String} {aft : Array Edge}
variable {x y : Operand} {T T' : TypeId}

/-! ### Lengths -/
theorem run_len {tys : Array TypeId} {v r : Value} (h : (Builtin.len_ tys ty #[v]).run P w = .ok r w) (hx : ev l x = some v) (hN : Nat.blt d N = true) (next : W P N ops Q rest ((d, r) :: l) w) : W P N ops Q (⟨some d, .call ⟨.builtin .len, #[x], tys⟩, ty, pos, aft, none⟩ :: rest) l w :=
  W.op rfl rfl hN (fun a ha => by
    simp only [execOp, resolve, invoke, builtin, List.map_toArray, List.map_cons, List.map_nil, ha.ev hx, Sem.run_bind, Sem.run_pure, Result.andThen_ok, h]) next
theorem W.lenS {ao : Option Addr} {n c e : Nat} (hx : ev l x = some (.slice ao n c)) (hT : P.underlying T = some (.slice e)) (hN : Nat.blt d N = true) (next : W P N ops Q rest ((d, .int .i64 (n : Int)) :: l) w) : W P N ops Q (⟨some d, .call ⟨.builtin .len, #[x], #[T]⟩, ty, pos, aft, none⟩ :: rest) l w :=
  run_len (by simp [Builtin.len_, run_underlying hT, goInt]) hx hN next
theorem W.lenStr {s : ByteArray} (hx : ev l x = some (.string s)) (hT : P.underlying T = some .string) (hN : Nat.blt d N = true) (next : W P N ops Q rest ((d, .int .i64 (s.size : Int)) :: l) w) : W P N ops Q (⟨some d, .call ⟨.builtin .len, #[x], #[T]⟩, ty, pos, aft, none⟩ :: rest) l w :=
  run_len (by simp [Builtin.len_, run_underlying hT, goInt]) hx hN next
theorem W.lenArr {v : Value} {n e : Nat} (hx : ev l x = some v) (hT : P.underlying T = some (.array n e)) (hN : Nat.blt d N = true) (next : W P N ops Q rest ((d, .int .i64 (n : Int)) :: l) w) : W P N ops Q (⟨some d, .call ⟨.builtin .len, #[x], #[T]⟩, ty, pos, aft, none⟩ :: rest) l w :=
  run_len (by simp [Builtin.len_, run_underlying hT, goInt]) hx hN next

/-! ### append onto what is owned -/
/-- Facts on an element type's row of the table. -/
structure Elem (P : Program) (e sz bytes : Nat) (z : Value) : Prop where
  out : ∃ i, P.info? e = some i ∧ i.zero = some z ∧ i.size = sz ∧ i.bytes = bytes
  zlen : z.cells.size = sz
  pos : 0 < sz
theorem Elem.of {P : Program} {e sz bytes : Nat} {z : Value} (h : (P.info? e).map (fun i => (i.zero, i.size, i.bytes)) = some (some z, sz, bytes)) (h1 : z.cells.size = sz) (h2 : Nat.blt 0 sz = true) : Elem P e sz bytes z :=
  ⟨info_parts h, h1, lt_of_blt h2⟩

theorem append_own {P : Program} (w : World) {e sz bytes base n m c : Nat} {t ty : TypeId} {z v : Value} {ad : Addr} {cs news : List Value} (hE : Elem P e sz bytes z) (hT : P.underlying t = some (.slice e))
    (hown : w.ownsRow base e sz v n cs) (hl : news.length = m * sz) (hc : Cells w ad news) (h1 : ∀ u ∈ news, u.oneCell' = true) (hlen : (n + m) * bytes ≤ 140737488355328) (hlen2 : n + m ≤ 140737488355328) (hbase : base ≤ w.heap.size) :
    ∃ v' w', (Builtin.append_ #[t, t] ty #[v, .slice (some ad) m c]).run P w = .ok v' w' ∧ w'.ownsRow base e sz v' (n + m) (cs ++ news) ∧ w.grownBy w' v.ownBlock ∧ (v'.ownBlock = v.ownBlock ∨ ∃ k, v'.ownBlock = some k ∧ w.heap.size ≤ k) := by
  obtain ⟨i, hi, hz, hsz, hby⟩ := hE.out
  have h63 : n + m ≤ maxLen := by unfold maxLen; omega
  obtain ⟨v', w', hr, h2, h3, h4⟩ := run_append_own (P := P) w base t ty e i z sz bytes hT hi hz hsz hby hE.zlen hE.pos v n cs hown ad m c news hl hc h1 h63 hlen hbase
  refine ⟨v', w', hr, h2, h3, ?_⟩
  rcases hown.2 with ⟨rfl, rfl⟩ | ⟨g, cap, cur, rfl, hbg, hg, hnc, hcm, hcs, htake⟩
  · by_cases hm : m = 0
    · left; rw [h4.2 ⟨rfl, hm⟩]
    · have hcs0 : cs = [] := List.eq_nil_of_length_eq_zero (by simpa using hown.1)
      subst hcs0
      obtain ⟨v2, w2, hr2, g2, _, g4⟩ := run_append_own (P := P) w w.heap.size t ty e i z sz bytes hT hi hz hsz hby hE.zlen hE.pos _ 0 [] (World.ownsRow_nil w w.heap.size e sz) ad m c news hl hc h1 h63 hlen (Nat.le_refl _)
      rw [hr] at hr2
      obtain ⟨rfl, rfl⟩ := Result.ok.inj hr2
      right
      rcases g2.2 with ⟨_, h0⟩ | ⟨g, cap, cur, rfl, hb, _⟩
      · omega
      · exact ⟨g, rfl, hb⟩
  · subst hsz
    by_cases hroom : n + m ≤ cap
    · have hfit : n * i.size + news.length ≤ cur.size := by rw [hl, hcs, ← Nat.add_mul]; exact Nat.mul_le_mul_right _ hroom
      have hr2 := run_append_room (P := P) w t ty e i hT hi g n cap cur hg ad m c news hl hc h1 hroom hfit
      rw [hr] at hr2
      obtain ⟨rfl, _⟩ := Result.ok.inj hr2
      exact .inl rfl
    · have holds : ∀ j u, cs[j]? = some u → w.cell? ((⟨g, 0, none⟩ : Addr).add j) = some u := hown.cells (g := g) rfl
      subst hby
      have hr2 := run_append_grow (P := P) w t ty e i z hT hi hz ⟨g, 0, none⟩ n cap cs hown.1 holds ad m c news hl hc (by omega) (by omega) (growslice_fits (by omega) hlen)
      rw [hr] at hr2
      obtain ⟨rfl, _⟩ := Result.ok.inj hr2
      exact .inr ⟨_, rfl, Nat.le_refl _⟩
theorem W.append {e sz bytes base n m c : Nat} {z v : Value} {ao : Option Addr} {cs news : List Value} (hE : Elem P e sz bytes z) (hT : P.underlying T = some (.slice e))
    (hx : ev l x = some v) (hy : ev l y = some (.slice ao m c)) (hown : w.ownsRow base e sz v n cs) (hs : Sl w ao m c sz news) (h1 : ∀ u ∈ news, u.oneCell' = true) (hlen : (n + m) * bytes ≤ 140737488355328) (hlen2 : n + m ≤ 140737488355328) (hbase : base ≤ w.heap.size) (hN : Nat.blt d N = true)
    (next : ∀ v' w', w'.ownsRow base e sz v' (n + m) (cs ++ news) → w.grownBy w' v.ownBlock → (v'.ownBlock = v.ownBlock ∨ ∃ k, v'.ownBlock = some k ∧ w.heap.size ≤ k) → W P N ops Q rest ((d, v') :: l) w') :
    W P N ops Q (⟨some d, .call ⟨.builtin .append, #[x, y], #[T, T]⟩, ty, pos, aft, none⟩ :: rest) l w := by
  obtain ⟨i, hi, hz, hsz, hby⟩ := hE.out
  cases ao with
  | none =>
    have hc0 := hs.nil rfl
    have hm0 : m = 0 := by have := hs.le; omega
    subst hc0; subst hm0
    have hnews : news = [] := List.eq_nil_of_length_eq_zero (by simpa using hs.len)
    subst hnews
    have hrun := run_append_owned_none (P := P) w base T ty e i sz hT hi v n cs hown
    refine W.op (v := v) (w' := w) rfl rfl hN (fun a ha => ?_) (next v w (by simpa using hown) (World.grownBy.refl _ _) (.inl rfl))
    simp only [execOp, resolve, invoke, builtin, Sem.run_bind, Sem.run_pure, Result.andThen_ok, List.map_toArray, List.map_cons, List.map_nil, ha.ev hx, ha.ev hy, hrun]
  | some ad =>
    have hc := hs.at_ ad rfl
    obtain ⟨v', w', hrun, h2, h3, h4⟩ := append_own (P := P) w (ty := ty) (c := c) hE hT hown hs.len hc h1 hlen hlen2 hbase
    refine W.op (v := v') (w' := w') rfl rfl hN (fun a ha => ?_) (next v' w' h2 h3 h4)
    simp only [execOp, resolve, invoke, builtin, Sem.run_bind, Sem.run_pure, Result.andThen_ok, List.map_toArray, List.map_cons, List.map_nil, ha.ev hx, ha.ev hy, hrun]

/-! ### literals, make -/
def evps (l : Env) : List (Nat × Operand) → Option (List (Nat × Value))
  | [] => some []
  | (i, x) :: r => match KW.ev l x, evps l r with
    | some v, some vs => some ((i, v) :: vs)
    | _, _ => none
theorem Has.evps {a : Act} (h : Has N l a) : ∀ {xs : List (Nat × Operand)} {vs : List (Nat × Value)}, evps l xs = some vs → xs.map (fun p => (p.1, a.eval p.2)) = vs := by
  intro xs
  induction xs with
  | nil => intro vs hv; simp [KW.evps] at hv; simp [hv]
  | cons x r ih =>
    intro vs hv
    obtain ⟨i, x⟩ := x
    unfold KW.evps at hv
    split at hv
    · rename_i v vs' h1 h2
      obtain rfl := Option.some.inj hv
      simp [h.ev h1, ih h2]
    · cases hv
theorem W.buildSlice {t e n sz bytes : Nat} {z : Value} {ps : List (Nat × Operand)} {vs : List (Nat × Value)} {cells : List Value} (hE : Elem P e sz bytes z) (hT : P.underlying t = some (.slice e)) (hp : evps l ps = some vs)
    (hf : Instr.fill (fun i => some (i * sz, sz)) ((Array.range (n * sz)).map (z.cells[· % z.cells.size]!)) vs = some cells.toArray) (hn : n * sz ≤ 16777216) (hlen : cells.length = n * sz) (h0 : ¬ n * sz = 0) (hN : Nat.blt d N = true)
    (next : ∀ g w', g = w.heap.size → Ext w w' → w'.ownsRow w.heap.size e sz (.slice (some ⟨g, 0, none⟩) n n) n cells → W P N ops Q rest ((d, .slice (some ⟨g, 0, none⟩) n n) :: l) w') :
    W P N ops Q (⟨some d, .buildSlice t n ps.toArray, ty, pos, aft, none⟩ :: rest) l w := by
  obtain ⟨i, hi, hz, hsz, hby⟩ := hE.out
  have hmax : n ≤ maxLen := by
    have : n * 1 ≤ n * sz := Nat.mul_le_mul_left n hE.pos
    unfold maxLen; omega
  have hb : ¬ 16777216 < n * sz := by omega
  refine W.op (v := .slice (some ⟨w.heap.size, 0, none⟩) n n) (w' := w.alloc (.cells cells.toArray e)) rfl rfl hN (fun a ha => ?_) (next _ _ rfl (Ext.alloc _ _) ?_)
  · have hps : (ps.toArray.map fun (i, x) => (i, a.eval x)) = vs.toArray := by
      rw [List.map_toArray]; congr 1; exact ha.evps hp
    have hrun : (Instr.buildSlice t n vs.toArray).run P w = .ok (.slice (some ⟨w.heap.size, 0, none⟩) n n) (w.alloc (.cells cells.toArray e)) := by
      subst hsz
      simp [Instr.buildSlice, run_underlying hT, sizeOf, typeInfo, zeroValue, hi, hz, hb, h0]
      rw [hf]
      rfl
    simp only [execOp, hps, Sem.run_bind, Sem.run_pure, Result.andThen_ok, hrun]
  · have := World.ownsRow_lit (base := w.heap.size) (e := e) (size := sz) w cells.toArray n (Nat.le_refl _) hmax (by simpa using hlen)
    simpa using this
/-- make([]T, n): n zero elements. -/
theorem W.make {t e n sz bytes : Nat} {z : Value} {kl kc : IntKind} {L C : Int} (hE : Elem P e sz bytes z) (hT : P.underlying t = some (.slice e)) (hx : ev l x = some (.int kl L)) (hy : ev l y = some (.int kc C)) (hL : L = (n : Int)) (hC : C = (n : Int))
    (hb : bytes * n ≤ 281474976710656) (hn : n ≤ 140737488355328) (hN : Nat.blt d N = true)
    (next : ∀ g w', g = w.heap.size → Ext w w' → w'.ownsRow w.heap.size e sz (.slice (some ⟨g, 0, none⟩) n n) n (madeCells z.cells (n * sz)).toList → W P N ops Q rest ((d, .slice (some ⟨g, 0, none⟩) n n) :: l) w') :
    W P N ops Q (⟨some d, .makeSlice t x y, ty, pos, aft, none⟩ :: rest) l w := by
  obtain ⟨i, hi, hz, hsz, hby⟩ := hE.out
  obtain ⟨w', hrun, h1, h2⟩ := run_make_full (P := P) w w.heap.size t e i z sz hT hi hz hsz kl kc n (by rw [hby]; exact hb) (by unfold maxLen; omega) (Nat.le_refl _)
  subst hL; subst hC
  refine W.op (v := .slice (some ⟨w.heap.size, 0, none⟩) n n) (w' := w') rfl rfl hN (fun a ha => ?_) (next _ w' rfl ((Chg.of_grown h2).mono fun k hk => by cases hk) h1)
  simp only [execOp, ha.ev hx, ha.ev hy, Sem.run_bind, Sem.run_pure, Result.andThen_ok, hrun]

/-! ### parts of slices -/
theorem W.slice {t e n c sz lo hi : Nat} {z : Value} {bytes : Nat} {ao : Option Addr} {cs : List Value} {ol oh : Option Operand} (hE : Elem P e sz bytes z) (hT : P.underlying t = some (.slice e)) (hx : ev l x = some (.slice ao n c)) (hs : Sl w ao n c sz cs)
    (hlo : (ol = none ∧ lo = 0) ∨ ∃ o k, ol = some o ∧ ev l o = some (.int k (lo : Int))) (hhi : (oh = none ∧ hi = n) ∨ ∃ o k, oh = some o ∧ ev l o = some (.int k (hi : Int))) (h1 : lo ≤ hi) (h2 : hi ≤ n) (hN : Nat.blt d N = true)
    (next : ∀ ao' c', Sl w ao' (hi - lo) c' sz ((cs.drop (lo * sz)).take ((hi - lo) * sz)) → (∀ ad, ao' = some ad → ∃ a, ao = some a ∧ ad.block = a.block) → W P N ops Q rest ((d, .slice ao' (hi - lo) c') :: l) w) :
    W P N ops Q (⟨some d, .slice t x ol oh none, ty, pos, aft, none⟩ :: rest) l w := by
  obtain ⟨i, hi', hz, hsz, hby⟩ := hE.out
  have hle := hs.le
  refine W.op (v := .slice (if c = lo then ao else ao.map (·.add (lo * sz))) (hi - lo) (c - lo)) (w' := w) rfl rfl hN (fun a ha => ?_) (next _ _ (hs.sub lo hi h1 h2) ?_)
  · have b1 : ∀ (m : Nat) (k : IntKind) (code : BoundsCode) (j : Nat), j ≤ m → (Instr.sliceBound (.int k (j : Int)) m code).run P w = .ok j w := by
      intro m k code j hj
      have : (0 : Int) ≤ (j : Int) ∧ (j : Int) ≤ (m : Int) := by omega
      simp [Instr.sliceBound, asIntOf, this]
    have hd : ∀ (u : TypeDesc), P.underlying t = some u → u = .slice e := fun u hu => by rw [hT] at hu; exact (Option.some.inj hu).symm
    have hrun : (Instr.slice t (.slice ao n c) (ol.map a.eval) (oh.map a.eval) none).run P w = .ok (.slice (if c = lo then ao else ao.map (·.add (lo * sz))) (hi - lo) (c - lo)) w := by
      rcases hlo with ⟨rfl, rfl⟩ | ⟨o1, k1, rfl, hv1⟩ <;> rcases hhi with ⟨rfl, rfl⟩ | ⟨o2, k2, rfl, hv2⟩
      · simp [Instr.slice, run_underlying hT, Instr.sliceBounds, sizeOf, typeInfo, hi', hsz]
      · simp [Instr.slice, run_underlying hT, Instr.sliceBounds, sizeOf, typeInfo, hi', hsz, ha.ev hv2, b1 c k2 _ hi (by omega)]
      · simp [Instr.slice, run_underlying hT, Instr.sliceBounds, sizeOf, typeInfo, hi', hsz, ha.ev hv1, b1 hi k1 _ lo h1]
      · simp [Instr.slice, run_underlying hT, Instr.sliceBounds, sizeOf, typeInfo, hi', hsz, ha.ev hv1, ha.ev hv2, b1 c k2 _ hi (by omega), b1 hi k1 _ lo h1]
    simp only [execOp, Instr.sliceAt, ha.ev hx, Sem.run_bind, Sem.run_pure, Result.andThen_ok, run_underlying hT, Option.map_none, hrun]
  · intro ad e
    split at e
    · exact ⟨ad, e, rfl⟩
    · cases ao with
      | none => cases e
      | some a => exact ⟨a, rfl, by obtain rfl := Option.some.inj e; exact add_block _ _⟩

/-! ### elements -/
theorem run_indexAt {t e n c sz bytes : Nat} {z : Value} {ad : Addr} {k : IntKind} {i : Int} (hE : Elem P e sz bytes z) (hT : P.underlying t = some (.slice e)) (h0 : 0 ≤ i) (h1 : i < n) :
    (Instr.indexAt t (.slice (some ad) n c) (.int k i)).run P w = .ok (.pointer (some (ad.add (i.toNat * sz)))) w := by
  obtain ⟨info, hi', hz, hsz, hby⟩ := hE.out
  simp [Instr.indexAt, asIntOf, run_underlying hT, h0, h1, sizeOf, typeInfo, hi', hsz]
/-- x[i] as an address. -/
theorem W.indexS {t e n c sz bytes : Nat} {z : Value} {ao : Option Addr} {cs : List Value} {k : IntKind} {i : Int} (hE : Elem P e sz bytes z) (hT : P.underlying t = some (.slice e)) (hx : ev l x = some (.slice ao n c)) (hs : Sl w ao n c sz cs) (hi : ev l y = some (.int k i)) (h0 : 0 ≤ i ∧ i < n) (hN : Nat.blt d N = true)
    (next : ∀ ad, ao.isSome = true → (∀ a, ao = some a → ad = a.add (i.toNat * sz)) → Cells w ad (cs.drop (i.toNat * sz)) → W P N ops Q rest ((d, .pointer (some ad)) :: l) w) :
    W P N ops Q (⟨some d, .indexAddr t x y, ty, pos, aft, none⟩ :: rest) l w := by
  cases ao with
  | none => have := hs.nil rfl; have := hs.le; omega
  | some a =>
    have hc := hs.at_ a rfl
    refine W.op (v := .pointer (some (a.add (i.toNat * sz)))) (w' := w) rfl rfl hN (fun f ha => ?_) (next _ rfl (fun b e => by cases e; rfl) (hc.drop _))
    simp only [execOp, ha.ev hx, ha.ev hi, Sem.run_bind, Sem.run_pure, Result.andThen_ok, run_indexAt hE hT h0.1 h0.2]
/-- A load of one cell. -/
theorem W.load {t : TypeId} {ad : Addr} {v : Value} {dd : TypeDesc} (hx : ev l x = some (.pointer (some ad))) (hT : P.underlying t = some dd) (ha : dd.isRow = false) (hc : w.cell? ad = some v) (hN : Nat.blt d N = true)
    (next : W P N ops Q rest ((d, v) :: l) w) : W P N ops Q (⟨some d, .load t x, ty, pos, aft, none⟩ :: rest) l w := by
  refine W.op rfl rfl hN (fun f hf => ?_) next
  have hagg : (isAgg t).run P w = .ok false w := by
    unfold isAgg
    rw [Sem.run_bind, run_underlying hT w]
    cases dd <;> simp_all
  simp [execOp, hf.ev hx, Instr.loadAt, Instr.sureAddr, loadVar, hagg, Go.load, Sem.run, hc]
/-- 'x[i]' of a slice of one-cell elements: the address and the load. -/
theorem W.idx {t e n c bytes d2 : Nat} {z : Value} {ao : Option Addr} {cs : List Value} {k : IntKind} {i : Int} {v : Value} {dd : TypeDesc} {ty2 : TypeId} {pos2 : String} {aft2 : Array Edge}
    (hE : Elem P e 1 bytes z) (hT : P.underlying t = some (.slice e)) (hd : P.underlying e = some dd) (hrow : dd.isRow = false) (hx : ev l x = some (.slice ao n c)) (hs : Sl w ao n c 1 cs) (hi : ev l y = some (.int k i)) (h0 : 0 ≤ i ∧ i < n) (hv : cs[i.toNat]? = some v) (hN : Nat.blt d N = true) (hN2 : Nat.blt d2 N = true)
    (next : ∀ p, W P N ops Q rest ((d2, v) :: (d, p) :: l) w) :
    W P N ops Q (⟨some d, .indexAddr t x y, ty, pos, aft, none⟩ :: ⟨some d2, .load e (.tmp d), ty2, pos2, aft2, none⟩ :: rest) l w := by
  refine W.indexS hE hT hx hs hi h0 hN ?_
  intro ad _ _ hc
  refine W.load (look_self _ _ _) hd hrow ?_ hN2 (next _)
  have := hc 0 v (by rw [List.getElem?_drop, Nat.mul_one, Nat.add_zero]; exact hv)
  rwa [show ad.add 0 = ad from by unfold Addr.add; rw [if_pos rfl]] at this
end
end Go.Proofs.Ythiijdbiikljpaa.KW
