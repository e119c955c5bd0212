/- Own blocks: arrays and structs that live in a block of their own, or as values. -/
import Derived.Test.YthiijdbiikljpaaKs
import Derived.Stop.BytesEq
namespace Go.Proofs.Ythiijdbiikljpaa.KW
open Go Go.RowKit
set_option linter.unusedVariables false
set_option linter.unusedSimpArgs false

/-- Block g holds the cells cs, and is not frozen. -/
def Bk (w : World) (g : Nat) (cs : List Value) : Prop := ∃ e, w.heap[g]? = some (.cells cs.toArray e (0, 0))
theorem Bk.lt {w : World} {g : Nat} {cs : List Value} (h : Bk w g cs) : g < w.heap.size := by
  obtain ⟨e, h⟩ := h
  exact (Array.getElem?_eq_some_iff.1 h).1
theorem Bk.chg {S : Nat → Prop} {w w' : World} {g : Nat} {cs : List Value} (h : Bk w g cs) (c : Chg S w w') (hn : ¬ S g) : Bk w' g cs := by
  have hl := h.lt
  obtain ⟨e, h⟩ := h
  exact ⟨e, (c.block g hl hn).trans h⟩
theorem Bk.ext {w w' : World} {g : Nat} {cs : List Value} (h : Bk w g cs) (c : Ext w w') : Bk w' g cs := h.chg c fun x => x
theorem Bk.cell {w : World} {g i : Nat} {cs : List Value} {v : Value} (h : Bk w g cs) (hv : cs[i]? = some v) : w.cell? ⟨g, i, none⟩ = some v := by
  obtain ⟨e, h⟩ := h
  simp only [World.cell?, h, Option.isSome_none, Bool.false_eq_true, if_false]
  simpa using hv
theorem Bk.cells {w : World} {g o : Nat} {cs : List Value} (h : Bk w g cs) : Cells w ⟨g, o, none⟩ (cs.drop o) := by
  intro j u hu
  rw [add_mk]
  exact h.cell (by rwa [List.getElem?_drop] at hu)
theorem Bk.sl {w : World} {g n c : Nat} {cs : List Value} (sz : Nat) (h : Bk w g cs) (hn : cs.length = n * sz) (hc : n ≤ c) : Sl w (some ⟨g, 0, none⟩) n c sz cs :=
  ⟨hc, hn, (fun e => by cases e), fun ad e => by obtain rfl := Option.some.inj e; exact h.cells (o := 0)⟩
theorem Bk.frozen {w : World} {g i : Nat} {cs : List Value} (h : Bk w g cs) : w.frozen? ⟨g, i, none⟩ = false := by
  obtain ⟨e, h⟩ := h
  simp [World.frozen?, h]
theorem Bk.setCell {w : World} {g : Nat} {cs : List Value} (h : Bk w g cs) (i : Nat) (v : Value) : Bk (w.setCell ⟨g, i, none⟩ v) g (cs.set i v) := by
  obtain ⟨e, h⟩ := h
  refine ⟨e, ?_⟩
  rw [heap_setCell_same w g i _ e v h]
  simp
theorem Chg.setCell (w : World) (g i : Nat) (v : Value) : Chg (fun k => k = g) w (w.setCell ⟨g, i, none⟩ v) :=
  ⟨rfl, rfl, rfl, by simp, fun k _ hn => heap_setCell_other w ⟨g, i, none⟩ k v hn⟩
/-- A list whose elements from o on are overwritten. -/
def splice : List Value → Nat → List Value → List Value
  | cs, _, [] => cs
  | cs, o, v :: r => splice (cs.set o v) (o + 1) r
theorem splice_length : ∀ (vs cs : List Value) (o : Nat), (splice cs o vs).length = cs.length := by
  intro vs
  induction vs with
  | nil => intro cs o; rfl
  | cons v r ih => intro cs o; rw [splice, ih, List.length_set]
theorem splice_one (cs : List Value) (o : Nat) (v : Value) : splice cs o [v] = cs.set o v := rfl
theorem splice_get : ∀ (vs cs : List Value) (o i : Nat), o + vs.length ≤ cs.length → (splice cs o vs)[i]? = if o ≤ i ∧ i < o + vs.length then vs[i - o]? else cs[i]? := by
  intro vs
  induction vs with
  | nil => intro cs o i h; rw [splice, if_neg]; simp
  | cons v r ih =>
    intro cs o i h
    simp only [List.length_cons] at h
    rw [splice, ih _ _ _ (by rw [List.length_set]; omega)]
    by_cases h1 : o + 1 ≤ i ∧ i < o + 1 + r.length
    · rw [if_pos h1, if_pos (by simp only [List.length_cons]; omega), show i - o = (i - (o + 1)) + 1 by omega, List.getElem?_cons_succ]
    · rw [if_neg h1]
      by_cases h2 : i = o
      · subst h2
        rw [if_pos (by simp only [List.length_cons]; omega), List.getElem?_set_self (by omega)]
        simp
      · rw [if_neg (by simp only [List.length_cons]; omega), List.getElem?_set_ne (Ne.symm h2)]
theorem splice_all {cs vs : List Value} (h : vs.length = cs.length) : splice cs 0 vs = vs := by
  apply List.ext_getElem?
  intro i
  rw [splice_get vs cs 0 i (by omega)]
  by_cases hi : i < vs.length
  · rw [if_pos ⟨by omega, by omega⟩, Nat.sub_zero]
  · rw [if_neg (by omega), List.getElem?_eq_none (by omega), List.getElem?_eq_none (by omega)]
theorem Bk.setCells : ∀ (vs : List Value) (o : Nat) (w : World) (g : Nat) (cs : List Value), Bk w g cs → Bk (w.setCells g o vs) g (splice cs o vs) ∧ Chg (fun k => k = g) w (w.setCells g o vs) := by
  intro vs
  induction vs with
  | nil => intro o w g cs h; exact ⟨h, Chg.refl _ _⟩
  | cons v r ih =>
    intro o w g cs h
    obtain ⟨h1, h2⟩ := ih (o + 1) (w.setCell ⟨g, o, none⟩ v) g _ (h.setCell o v)
    exact ⟨h1, (Chg.setCell w g o v).trans h2⟩

theorem run_loadRow {P : Program} (w : World) (ad : Addr) (ty : TypeId) (cs : List Value) (d : TypeDesc) (hc : Cells w ad cs) (hu : P.underlying ty = some d) (hd : d.isRow = true) (hi : (P.info? ty).map (·.size) = some cs.length) :
    (loadVar ty ad).run P w = .ok (.agg cs.toArray) w := by
  have hl : (loadCells ad cs.length).run P w = .ok cs.toArray w := run_loadCells_list (P := P) w ad cs hc
  cases hq : P.info? ty with
  | none => simp [hq] at hi
  | some i =>
    have hs : i.size = cs.length := by simpa [hq] using hi
    have hagg : (isAgg ty).run P w = .ok true w := by
      unfold isAgg
      rw [Sem.run_bind, run_underlying hu w]
      cases d <;> simp_all
    simp [loadVar, Sem.run_bind, hagg, sizeOf, typeInfo, hq, hs, hl]
theorem run_storeAny {P : Program} (w : World) (g o : Nat) (ty : TypeId) (v : Value) (vs cs : List Value) (hv : v.cells = vs.toArray) (hb : Bk w g cs) (hl : o + vs.length ≤ cs.length) (hi : (P.info? ty).map (·.size) = some vs.length) (h1 : ∀ u ∈ vs, u.oneCell' = true) :
    (storeVar ty ⟨g, o, none⟩ v).run P w = .ok () (w.setCells g o vs) := by
  have h := run_storeCells_cells (P := P) g o vs 0 w (fun j hj => by
      rw [Nat.add_zero, hb.cell (List.getElem?_eq_getElem (by omega))]; rfl) (fun j hj => hb.frozen) h1
  cases hq : P.info? ty with
  | none => simp [hq] at hi
  | some i =>
    have hs : i.size = vs.length := by simpa [hq] using hi
    simp only [Nat.add_zero] at h
    simp [storeVar, sizeOf, typeInfo, hq, hv, hs, h]

section
variable {P : Program} {N : Nat} {Q : Exit → Act → World → Prop} {l : Env} {w : World} {ops : Array Oper} {rest : List Oper} {d : Tmp} {ty : TypeId} {pos : String} {aft : Array Edge}
variable {x y : Operand} {T T' : TypeId}

/-- A new variable, zero. -/
theorem W.alloc {t : TypeId} {z : Value} (cs : List Value) (hz : (P.info? t).map (·.zero) = some (some z)) (hc : z.cells = cs.toArray) (hN : Nat.blt d N = true)
    (next : ∀ g w', g = w.heap.size → Ext w w' → Bk w' g cs → W P N ops Q rest ((d, .pointer (some ⟨g, 0, none⟩)) :: l) w') : W P N ops Q (⟨some d, .alloc t, ty, pos, aft, none⟩ :: rest) l w := by
  refine W.op (v := .pointer (some ⟨w.heap.size, 0, none⟩)) (w' := w.alloc (.cells cs.toArray t)) rfl rfl hN (fun a ha => ?_) (next _ _ rfl (Ext.alloc _ _) ⟨t, heap_alloc_last w _⟩)
  cases hq : P.info? t with
  | none => simp [hq] at hz
  | some i =>
    have hs : i.zero = some z := by simpa [hq] using hz
    simp only [execOp, Instr.alloc, zeroValue, typeInfo, newVar, newRow]
    simp [hq, hs, hc]
/-- A new variable with a value. -/
theorem W.box {t : TypeId} {v : Value} (cs : List Value) (hx : ev l x = some v) (hc : v.cells = cs.toArray) (hN : Nat.blt d N = true)
    (next : ∀ g w', g = w.heap.size → Ext w w' → Bk w' g cs → W P N ops Q rest ((d, .pointer (some ⟨g, 0, none⟩)) :: l) w') : W P N ops Q (⟨some d, .box t x, ty, pos, aft, none⟩ :: rest) l w := by
  refine W.op (v := .pointer (some ⟨w.heap.size, 0, none⟩)) (w' := w.alloc (.cells cs.toArray t)) rfl rfl hN (fun a ha => ?_) (next _ _ rfl (Ext.alloc _ _) ⟨t, heap_alloc_last w _⟩)
  simp only [execOp, ha.ev hx, Instr.box, newVar, newRow]
  simp [hc]
/-- The whole of an array or a struct, read. -/
theorem W.loadA {t : TypeId} {ad : Addr} {cs : List Value} {dd : TypeDesc} (hx : ev l x = some (.pointer (some ad))) (hc : Cells w ad cs) (hT : P.underlying t = some dd) (hd : dd.isRow = true) (hi : (P.info? t).map (·.size) = some cs.length) (hN : Nat.blt d N = true)
    (next : W P N ops Q rest ((d, .agg cs.toArray) :: l) w) : W P N ops Q (⟨some d, .load t x, ty, pos, aft, none⟩ :: rest) l w :=
  W.op rfl rfl hN (fun f hf => by simp [execOp, hf.ev hx, Instr.loadAt, Instr.sureAddr, run_loadRow w ad t cs dd hc hT hd hi]) next
/-- A store into an own block. -/
theorem W.storeB {t : TypeId} {g o : Nat} {v : Value} {cs : List Value} (vs : List Value) (hx : ev l x = some (.pointer (some ⟨g, o, none⟩))) (hy : ev l y = some v) (hv : v.cells = vs.toArray) (hb : Bk w g cs) (hl : o + vs.length ≤ cs.length) (hi : (P.info? t).map (·.size) = some vs.length) (h1 : ∀ u ∈ vs, u.oneCell' = true)
    (next : ∀ w', Chg (fun k => k = g) w w' → Bk w' g (splice cs o vs) → W P N ops Q rest l w') : W P N ops Q (⟨none, .store t x y, ty, pos, aft, none⟩ :: rest) l w := by
  obtain ⟨h2, h3⟩ := Bk.setCells vs o w g cs hb
  refine W.opSkip (w' := w.setCells g o vs) rfl rfl (fun a ha => ?_) (next _ h3 h2)
  simp [execOp, ha.ev hx, ha.ev hy, Instr.storeAt, Instr.sureAddr, run_storeAny w g o t v vs cs hv hb hl hi h1]
/-- of the whole block. -/
theorem W.storeA {t : TypeId} {g : Nat} {cs : List Value} (vs : List Value) (hx : ev l x = some (.pointer (some ⟨g, 0, none⟩))) (hy : ev l y = some (.agg vs.toArray)) (hb : Bk w g cs) (hl : vs.length = cs.length) (hi : (P.info? t).map (·.size) = some vs.length) (h1 : ∀ u ∈ vs, u.oneCell' = true)
    (next : ∀ w', Chg (fun k => k = g) w w' → Bk w' g vs → W P N ops Q rest l w') : W P N ops Q (⟨none, .store t x y, ty, pos, aft, none⟩ :: rest) l w :=
  W.storeB vs hx hy rfl hb (by omega) hi h1 fun w' hc h => next w' hc (by rwa [splice_all hl] at h)
/-- of one cell. -/
theorem W.store1 {t : TypeId} {g o : Nat} {v : Value} {cs : List Value} (hx : ev l x = some (.pointer (some ⟨g, o, none⟩))) (hy : ev l y = some v) (hv : v.oneCell' = true) (hb : Bk w g cs) (hl : o < cs.length) (hi : (P.info? t).map (·.size) = some 1)
    (next : ∀ w', Chg (fun k => k = g) w w' → Bk w' g (cs.set o v) → W P N ops Q rest l w') : W P N ops Q (⟨none, .store t x y, ty, pos, aft, none⟩ :: rest) l w :=
  W.storeB [v] hx hy (by rw [cells_one hv]) hb (by simp; omega) (by simpa using hi) (fun u hu => by simp at hu; subst hu; exact hv) next
/-- The address of an array's element. -/
theorem W.indexA {t e n sz bytes g o : Nat} {z : Value} {k : IntKind} {i : Int} (j : Nat) (hE : Elem P e sz bytes z) (hT : P.underlying t = some (.array n e)) (hx : ev l x = some (.pointer (some ⟨g, o, none⟩))) (hy : ev l y = some (.int k i)) (hj : i = (j : Int)) (hn : j < n) (hN : Nat.blt d N = true)
    (next : W P N ops Q rest ((d, .pointer (some ⟨g, o + j * sz, none⟩)) :: l) w) : W P N ops Q (⟨some d, .indexAddr t x y, ty, pos, aft, none⟩ :: rest) l w := by
  obtain ⟨info, hi', hz, hsz, hby⟩ := hE.out
  subst hj
  refine W.op rfl rfl hN (fun f ha => ?_) next
  have h0 : (0 : Int) ≤ (j : Int) ∧ (j : Int) < (n : Int) := by omega
  simp [execOp, ha.ev hx, ha.ev hy, Instr.indexAt, asIntOf, run_underlying hT, Instr.sureAddr, h0, hn, sizeOf, typeInfo, hi', hsz, add_mk]
/-- of an own array of one-cell elements. -/
theorem W.indexA1 {t e n bytes g j : Nat} {z : Value} {k : IntKind} (hE : Elem P e 1 bytes z) (hT : P.underlying t = some (.array n e)) (hx : ev l x = some (.pointer (some ⟨g, 0, none⟩))) (hy : ev l y = some (.int k (j : Int))) (hn : j < n) (hN : Nat.blt d N = true)
    (next : W P N ops Q rest ((d, .pointer (some ⟨g, j, none⟩)) :: l) w) : W P N ops Q (⟨some d, .indexAddr t x y, ty, pos, aft, none⟩ :: rest) l w :=
  W.indexA j hE hT hx hy rfl hn hN (by rw [Nat.zero_add, Nat.mul_one]; exact next)
/-- One cell of an own block. -/
theorem W.loadB {t : TypeId} {g j : Nat} {cs : List Value} {v : Value} {dd : TypeDesc} (hx : ev l x = some (.pointer (some ⟨g, j, none⟩))) (hT : P.underlying t = some dd) (ha : dd.isRow = false) (hb : Bk w g cs) (hv : cs[j]? = some v) (hN : Nat.blt d N = true)
    (next : W P N ops Q rest ((d, v) :: l) w) : W P N ops Q (⟨some d, .load t x, ty, pos, aft, none⟩ :: rest) l w :=
  W.load hx hT ha (hb.cell hv) hN next
/-- An element of an array that is a value; of one cell. -/
theorem W.indexV {t e n bytes : Nat} {z : Value} {k : IntKind} {i : Int} {cs : List Value} {v : Value} {dd : TypeDesc} (j : Nat) (hE : Elem P e 1 bytes z) (hT : P.underlying t = some (.array n e)) (hd : P.underlying e = some dd) (hrow : dd.isRow = false) (hx : ev l x = some (.agg cs.toArray)) (hy : ev l y = some (.int k i)) (hj : i = (j : Int)) (hn : j < n) (hv : cs[j]? = some v) (hN : Nat.blt d N = true)
    (next : W P N ops Q rest ((d, v) :: l) w) : W P N ops Q (⟨some d, .index t x y, ty, pos, aft, none⟩ :: rest) l w := by
  obtain ⟨info, hi', hz, hsz, hby⟩ := hE.out
  subst hj
  refine W.op rfl rfl hN (fun f ha => ?_) next
  have h0 : (0 : Int) ≤ (j : Int) ∧ (j : Int) < (n : Int) := by omega
  have hagg : (isAgg e).run P w = .ok false w := by
    unfold isAgg
    rw [Sem.run_bind, run_underlying hd w]
    cases dd <;> simp_all
  simp [execOp, ha.ev hx, ha.ev hy, Instr.index, asIntOf, run_underlying hT, h0, hn, sizeOf, typeInfo, hi', hsz, part, hagg, hv]
/-- An array's literal, of one-cell elements. -/
theorem W.buildA {t e n bytes : Nat} {z : Value} {ps : List (Nat × Operand)} {vs : List (Nat × Value)} (cells zs : List Value) (hE : Elem P e 1 bytes z) (hT : P.underlying t = some (.array n e)) (hz : (P.info? t).map (·.zero) = some (some (.agg zs.toArray))) (hp : evps l ps = some vs)
    (hv : vs = enum 0 cells) (h1 : ∀ u ∈ cells, u.oneCell' = true) (hl : zs.length = cells.length) (hN : Nat.blt d N = true)
    (next : W P N ops Q rest ((d, .agg cells.toArray) :: l) w) : W P N ops Q (⟨some d, .build t ps.toArray, ty, pos, aft, none⟩ :: rest) l w := by
  obtain ⟨i, hi, hz', hsz, hby⟩ := hE.out
  subst hv
  refine W.op rfl rfl hN (fun a ha => ?_) next
  have hps : (ps.toArray.map fun (i, x) => (i, a.eval x)) = (enum 0 cells).toArray := by
    rw [List.map_toArray]; congr 1; exact ha.evps hp
  have hf : Instr.fill (fun i => some (i * 1, 1)) zs.toArray (enum 0 cells) = some cells.toArray := by
    have := fill_enum cells zs 0 [] h1 rfl hl
    simpa using this
  cases hq : P.info? t with
  | none => simp [hq] at hz
  | some it =>
    have hs : it.zero = some (.agg zs.toArray) := by simpa [hq] using hz
    simp only [execOp, hps, Instr.build, zeroValue, typeInfo]
    simp [hq, hs, run_underlying hT, sizeOf, typeInfo, hi, hsz, Value.cells]
    simp at hf
    rw [hf]
    rfl
/-- The whole of an array as a slice. -/
theorem W.sliceA {t e n sz bytes g o : Nat} {z : Value} (hE : Elem P e sz bytes z) (hT : P.underlying t = some (.array n e)) (hx : ev l x = some (.pointer (some ⟨g, o, none⟩))) (hN : Nat.blt d N = true)
    (next : W P N ops Q rest ((d, .slice (some ⟨g, o, none⟩) n n) :: l) w) : W P N ops Q (⟨some d, .slice t x none none none, ty, pos, aft, none⟩ :: rest) l w := by
  obtain ⟨i, hi, hz', hsz, hby⟩ := hE.out
  refine W.op rfl rfl hN (fun a ha => ?_) next
  simp [execOp, ha.ev hx, Instr.sliceAt, run_underlying hT, Instr.sureAddr, Instr.sliceBounds, sizeOf, typeInfo, hi, hsz, add_mk]
/-- A slice as an array's address. -/
theorem W.arrayAt {t e n m c : Nat} {ao : Option Addr} (hT : P.underlying t = some (.array n e)) (hx : ev l x = some (.slice ao m c)) (hm : n ≤ m) (hN : Nat.blt d N = true)
    (next : W P N ops Q rest ((d, .pointer ao) :: l) w) : W P N ops Q (⟨some d, .sliceToArrayPointer t x, ty, pos, aft, none⟩ :: rest) l w := by
  refine W.op rfl rfl hN (fun a ha => ?_) next
  simp [execOp, ha.ev hx, Instr.arrayAt, run_underlying hT, Nat.not_lt.2 hm]

/-- make([]byte, k). -/
theorem W.makeB {t e k bytes : Nat} {kl kc : IntKind} {L C : Int} (hE : Elem P e 1 bytes (.int .u8 0)) (hT : P.underlying t = some (.slice e)) (hx : ev l x = some (.int kl L)) (hy : ev l y = some (.int kc C)) (hL : L = (k : Int)) (hC : C = (k : Int))
    (hb : bytes * k ≤ 281474976710656) (hn : k ≤ 140737488355328) (hN : Nat.blt d N = true)
    (next : ∀ g w', g = w.heap.size → Ext w w' → w'.ownsRow w.heap.size e 1 (.slice (some ⟨g, 0, none⟩) k k) k ((List.replicate k (0 : UInt8)).map byteV) → W P N ops Q rest ((d, .slice (some ⟨g, 0, none⟩) k k) :: l) w') :
    W P N ops Q (⟨some d, .makeSlice t x y, ty, pos, aft, none⟩ :: rest) l w := by
  refine W.make hE hT hx hy hL hC hb hn hN fun g w' hg hX ho => next g w' hg hX ?_
  have e : (madeCells (Value.cells (.int .u8 0)) (k * 1)).toList = (List.replicate k (0 : UInt8)).map byteV := by
    apply List.ext_getElem?
    intro i
    simp only [madeCells, Nat.mul_one, Value.cells]
    by_cases hi : i < k
    · simp [hi, byteV, Nat.mod_one]
    · simp [hi]
  rwa [e] at ho
/-- x == y of arrays of bytes. -/
theorem W.eqlKey {e n : Nat} {a b : List UInt8} (hT : P.underlying T = some (.array n e)) (he : P.underlying e = some (.int .u8)) (hi : (P.info? e).map (·.size) = some 1) (hx : ev l x = some (.agg (a.map byteV).toArray)) (hy : ev l y = some (.agg (b.map byteV).toArray)) (ha : a.length = n) (hb : b.length = n) (hg : P.eqGuardType P.depth T = false) (hN : Nat.blt d N = true)
    (next : W P N ops Q rest ((d, .bool (decide (a = b))) :: l) w) : W P N ops Q (⟨some d, .binOp .eql T x y T', ty, pos, aft, none⟩ :: rest) l w :=
  W.op rfl rfl hN (fun f hf => by
    have hsz : ∀ w, (sizeOf e).run P w = .ok 1 w := by
      intro w
      cases hq : P.info? e with
      | none => simp [hq] at hi
      | some i =>
        have hs : i.size = 1 := by simpa [hq] using hi
        simp [sizeOf, typeInfo, hq, hs]
    have he' : (eqGuard .eql T x y (.agg (a.map byteV).toArray) (.agg (b.map byteV).toArray)).run P w = .ok () w := by simp [eqGuard, hg]
    have hr := run_eql_bytes (P := P) w T e n hT he hsz a b ha hb
    have ec : Extern.Stop.cell = byteV := rfl
    have eb : (a == b) = decide (a = b) := by rw [Bool.eq_iff_iff]; simp
    rw [ec, eb] at hr
    simp only [execOp, hf.ev hx, hf.ev hy, he', Sem.run_bind, Sem.run_pure, Result.andThen_ok, hr]) next
/-- A store at a place of what is owned. -/
theorem W.storeO {t e base n c g i : Nat} {u : Value} {cs : List Value} (hx : ev l x = some (.pointer (some ⟨g, i, none⟩))) (hy : ev l y = some u) (hu : u.oneCell' = true) (ho : w.ownsRow base e 1 (.slice (some ⟨g, 0, none⟩) n c) n cs) (hi : i < n) (hs : (P.info? t).map (·.size) = some 1)
    (next : ∀ w', Chg (fun k => k = g) w w' → w'.ownsRow base e 1 (.slice (some ⟨g, 0, none⟩) n c) n (cs.set i u) → W P N ops Q rest l w') : W P N ops Q (⟨none, .store t x y, ty, pos, aft, none⟩ :: rest) l w := by
  rcases ho.2 with ⟨h0, _⟩ | ⟨g', cap, cur, hv, hb, hg, hnc, hcm, hcs, htake⟩
  · cases h0
  · injection hv with h1 h2 h3
    injection h1 with h1
    injection h1 with h1
    subst h1; subst h3
    have hB : Bk w g cur.toList := ⟨e, by simpa using hg⟩
    refine W.opSkip (w' := w.setCell ⟨g, i, none⟩ u) rfl rfl (fun a ha => ?_) (next _ (Chg.setCell w g i u) ⟨by rw [List.length_set]; exact ho.1, .inr ⟨g, c, cur.setIfInBounds i u, rfl, hb, heap_setCell_same w g i cur e u hg, hnc, hcm, by rw [Array.size_setIfInBounds]; exact hcs, ?_⟩⟩)
    · have := run_storeAny (P := P) w g i t u [u] cur.toList (by rw [cells_one hu]) hB (by simp; omega) (by simpa using hs) (fun v hv => by simp at hv; subst hv; exact hu)
      simp [execOp, ha.ev hx, ha.ev hy, Instr.storeAt, Instr.sureAddr, this, World.setCells]
    · rw [← htake, Array.toList_setIfInBounds, List.take_set]

section
variable {fn : Func} {R : Value → World → Prop}
theorem run_results_cell {p : Tmp} {t : TypeId} (hr : fn.results = #[.cell p t]) (tmps : Array Value) {ad : Addr} {v : Value} (hp : tmps[p]? = some (.pointer (some ad))) (hl : (loadVar t ad).run P w = .ok v w) : (results fn tmps).run P w = .ok v w := by
  simp only [results, hr]
  simp [Sem.run_bind, Result.andThen, hp, asAddr, hl]
theorem run_results_tmp_cell {u p : Tmp} {t : TypeId} (hr : fn.results = #[.tmp u, .cell p t]) (tmps : Array Value) {ad : Addr} {v0 v : Value} (hu : tmps[u]? = some v0) (hp : tmps[p]? = some (.pointer (some ad))) (hl : (loadVar t ad).run P w = .ok v w) : (results fn tmps).run P w = .ok (.tuple #[v0, v]) w := by
  simp only [results, hr]
  simp [Sem.run_bind, Result.andThen, hu, hp, asAddr, hl]
theorem At.retTC {u p : Tmp} {t : TypeId} {ad : Addr} {v0 : Value} {cs : List Value} {dd : TypeDesc} (hr : fn.results = #[.tmp u, .cell p t]) (hu : look l u = some v0) (hp : look l p = some (.pointer (some ad))) (hc : Cells w ad cs) (hT : P.underlying t = some dd) (hd : dd.isRow = true) (hi : (P.info? t).map (·.size) = some cs.length) (hR : R (.tuple #[v0, .agg cs.toArray]) w) : At P N (Ret P fn R) .ret l w :=
  ⟨fun a ha => bodyPost_ret (run_results_tmp_cell hr a.tmps (ha.mem _ _ hu) (ha.mem _ _ hp) (run_loadRow w ad t cs dd hc hT hd hi)) ha.defers ⟨_, rfl, hR⟩⟩
/-- A result that lies in a cell. -/
theorem At.retC {p : Tmp} {t : TypeId} {ad : Addr} {cs : List Value} {dd : TypeDesc} (hr : fn.results = #[.cell p t]) (hp : look l p = some (.pointer (some ad))) (hc : Cells w ad cs) (hT : P.underlying t = some dd) (hd : dd.isRow = true) (hi : (P.info? t).map (·.size) = some cs.length) (hR : R (.agg cs.toArray) w) : At P N (Ret P fn R) .ret l w :=
  ⟨fun a ha => bodyPost_ret (run_results_cell hr a.tmps (ha.mem _ _ hp) (run_loadRow w ad t cs dd hc hT hd hi)) ha.defers ⟨_, rfl, hR⟩⟩
end
end
end Go.Proofs.Ythiijdbiikljpaa.KW
