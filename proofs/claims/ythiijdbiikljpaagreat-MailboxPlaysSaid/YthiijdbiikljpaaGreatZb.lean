/- Own blocks: arrays and structs that live in a block of their own, or as values. Structs: their fields' addresses, literals, parts, and how two of them are compared; the least and the greatest of two numbers. Regions that draw their order: one relation for each operation's value, kept over whatever the others do; each operation is walked once, out of the relations of those that it waits for. Package disk and the reference's disk of chapter 22. Elements: what group.Right and the reference's Right tell. -/
import Derived.Test.YthiijdbiikljpaaGreatZa
import Derived.Stop.BytesEq
import Derived.Laws.Cover3
import Derived.Orders
namespace Go.Proofs.YthiijdbiikljpaaGreat.KW
open Go Go.RowKit
set_option linter.unusedVariables false
set_option linter.unusedSimpArgs false
def Bk (w : World) (g : Nat) (cs : List Value) : Prop := ∃ e, w.heap[g]? = some (.cells cs.toArray e (0, 0))
theorem Bk.lt {w : World} {g : Nat} {cs : List Value} (h : Bk w g cs) : g < w.heap.size := by
 obtain ⟨e, h⟩ := h
 exact (Array.getElem?_eq_some_iff.1 h).1
theorem Bk.chg {S : Nat → Prop} {w w' : World} {g : Nat} {cs : List Value} (h : Bk w g cs) (c : Chg S w w') (hn : ¬ S g) : Bk w' g cs := by
 have hl := h.lt
 obtain ⟨e, h⟩ := h
 exact ⟨e, (c.block g hl hn).trans h⟩
theorem Bk.ext {w w' : World} {g : Nat} {cs : List Value} (h : Bk w g cs) (c : Ext w w') : Bk w' g cs := h.chg c fun x => x
theorem Bk.cell {w : World} {g i : Nat} {cs : List Value} {v : Value} (h : Bk w g cs) (hv : cs[i]? = some v) : w.cell? ⟨g, i, none⟩ = some v := by
 obtain ⟨e, h⟩ := h
 simp only [World.cell?, h, Option.isSome_none, Bool.false_eq_true, if_false]
 simpa using hv
theorem Bk.cells {w : World} {g o : Nat} {cs : List Value} (h : Bk w g cs) : Cells w ⟨g, o, none⟩ (cs.drop o) := by
 intro j u hu
 rw [add_mk]
 exact h.cell (by rwa [List.getElem?_drop] at hu)
theorem Bk.frozen {w : World} {g i : Nat} {cs : List Value} (h : Bk w g cs) : w.frozen? ⟨g, i, none⟩ = false := by
 obtain ⟨e, h⟩ := h
 simp [World.frozen?, h]
theorem Bk.setCell {w : World} {g : Nat} {cs : List Value} (h : Bk w g cs) (i : Nat) (v : Value) : Bk (w.setCell ⟨g, i, none⟩ v) g (cs.set i v) := by
 obtain ⟨e, h⟩ := h
 refine ⟨e, ?_⟩
 rw [heap_setCell_same w g i _ e v h]
 simp
theorem Chg.setCell (w : World) (g i : Nat) (v : Value) : Chg (fun k => k = g) w (w.setCell ⟨g, i, none⟩ v) :=
 ⟨rfl, rfl, rfl, by simp, fun k _ hn => heap_setCell_other w ⟨g, i, none⟩ k v hn⟩
def splice : List Value → Nat → List Value → List Value
  | cs, _, [] => cs
  | cs, o, v :: r => splice (cs.set o v) (o + 1) r
theorem splice_get : ∀ (vs cs : List Value) (o i : Nat), o + vs.length ≤ cs.length → (splice cs o vs)[i]? = if o ≤ i ∧ i < o + vs.length then vs[i - o]? else cs[i]? := by
 intro vs
 induction vs with
 | nil => intro cs o i h; rw [splice, if_neg]; simp
 | cons v r ih =>
   intro cs o i h
   simp only [List.length_cons] at h
   rw [splice, ih _ _ _ (by rw [List.length_set]; omega)]
   by_cases h1 : o + 1 ≤ i ∧ i < o + 1 + r.length
   rw [if_pos h1, if_pos (by simp only [List.length_cons]; omega), show i - o = (i - (o + 1)) + 1 by omega, List.getElem?_cons_succ]
   rw [if_neg h1]
   by_cases h2 : i = o
   subst h2
   rw [if_pos (by simp only [List.length_cons]; omega), List.getElem?_set_self (by omega)]
   simp
   rw [if_neg (by simp only [List.length_cons]; omega), List.getElem?_set_ne (Ne.symm h2)]
theorem splice_all {cs vs : List Value} (h : vs.length = cs.length) : splice cs 0 vs = vs := by
 apply List.ext_getElem?
 intro i
 rw [splice_get vs cs 0 i (by omega)]
 by_cases hi : i < vs.length
 rw [if_pos ⟨by omega, by omega⟩, Nat.sub_zero]
 rw [if_neg (by omega), List.getElem?_eq_none (by omega), List.getElem?_eq_none (by omega)]
theorem Bk.setCells : ∀ (vs : List Value) (o : Nat) (w : World) (g : Nat) (cs : List Value), Bk w g cs → Bk (w.setCells g o vs) g (splice cs o vs) ∧ Chg (fun k => k = g) w (w.setCells g o vs) := by
 intro vs
 induction vs with
 | nil => intro o w g cs h; exact ⟨h, Chg.refl _ _⟩
 | cons v r ih =>
   intro o w g cs h
   obtain ⟨h1, h2⟩ := ih (o + 1) (w.setCell ⟨g, o, none⟩ v) g _ (h.setCell o v)
   exact ⟨h1, (Chg.setCell w g o v).trans h2⟩
theorem run_loadRow {P : Program} (w : World) (ad : Addr) (ty : TypeId) (cs : List Value) (d : TypeDesc) (hc : Cells w ad cs) (hu : P.underlying ty = some d) (hd : d.isRow = true) (hi : (P.info? ty).map (·.size) = some cs.length) :
   (loadVar ty ad).run P w = .ok (.agg cs.toArray) w := by
 have hl : (loadCells ad cs.length).run P w = .ok cs.toArray w := run_loadCells_list (P := P) w ad cs hc
 cases hq : P.info? ty with
 | none => simp [hq] at hi
 | some i =>
   have hs : i.size = cs.length := by simpa [hq] using hi
   have hagg : (isAgg ty).run P w = .ok true w := by
     unfold isAgg
     rw [Sem.run_bind, run_underlying hu w]
     cases d <;> simp_all
   simp [loadVar, Sem.run_bind, hagg, sizeOf, typeInfo, hq, hs, hl]
theorem run_storeAny {P : Program} (w : World) (g o : Nat) (ty : TypeId) (v : Value) (vs cs : List Value) (hv : v.cells = vs.toArray) (hb : Bk w g cs) (hl : o + vs.length ≤ cs.length) (hi : (P.info? ty).map (·.size) = some vs.length) (h1 : ∀ u ∈ vs, u.oneCell' = true) :
   (storeVar ty ⟨g, o, none⟩ v).run P w = .ok () (w.setCells g o vs) := by
 have h := run_storeCells_cells (P := P) g o vs 0 w (fun j hj => by
     rw [Nat.add_zero, hb.cell (List.getElem?_eq_getElem (by omega))]; rfl) (fun j hj => hb.frozen) h1
 cases hq : P.info? ty with
 | none => simp [hq] at hi
 | some i =>
   have hs : i.size = vs.length := by simpa [hq] using hi
   simp only [Nat.add_zero] at h
   simp [storeVar, sizeOf, typeInfo, hq, hv, hs, h]
section
variable {P : Program} {N : Nat} {Q : Exit → Act → World → Prop} {l : Env} {w : World} {ops : Array Oper} {rest : List Oper} {d : Tmp} {ty : TypeId} {pos : String} {aft : Array Edge}
variable {x y : Operand} {T T' : TypeId}
theorem W.alloc {t : TypeId} {z : Value} (cs : List Value) (hz : (P.info? t).map (·.zero) = some (some z)) (hc : z.cells = cs.toArray) (hN : Nat.blt d N = true)
   (next : ∀ g w', g = w.heap.size → Ext w w' → Bk w' g cs → W P N ops Q rest ((d, .pointer (some ⟨g, 0, none⟩)) :: l) w') : W P N ops Q (⟨some d, .alloc t, ty, pos, aft, none⟩ :: rest) l w := by
 refine W.op (v := .pointer (some ⟨w.heap.size, 0, none⟩)) (w' := w.alloc (.cells cs.toArray t)) rfl rfl hN (fun a ha => ?_) (next _ _ rfl (Ext.alloc _ _) ⟨t, heap_alloc_last w _⟩)
 cases hq : P.info? t with
 | none => simp [hq] at hz
 | some i =>
   have hs : i.zero = some z := by simpa [hq] using hz
   simp only [execOp, Instr.alloc, zeroValue, typeInfo, newVar, newRow]
   simp [hq, hs, hc]
theorem W.box {t : TypeId} {v : Value} (cs : List Value) (hx : ev l x = some v) (hc : v.cells = cs.toArray) (hN : Nat.blt d N = true)
   (next : ∀ g w', g = w.heap.size → Ext w w' → Bk w' g cs → W P N ops Q rest ((d, .pointer (some ⟨g, 0, none⟩)) :: l) w') : W P N ops Q (⟨some d, .box t x, ty, pos, aft, none⟩ :: rest) l w := by
 refine W.op (v := .pointer (some ⟨w.heap.size, 0, none⟩)) (w' := w.alloc (.cells cs.toArray t)) rfl rfl hN (fun a ha => ?_) (next _ _ rfl (Ext.alloc _ _) ⟨t, heap_alloc_last w _⟩)
 simp only [execOp, ha.ev hx, Instr.box, newVar, newRow]
 simp [hc]
theorem W.loadA {t : TypeId} {ad : Addr} {cs : List Value} {dd : TypeDesc} (hx : ev l x = some (.pointer (some ad))) (hc : Cells w ad cs) (hT : P.underlying t = some dd) (hd : dd.isRow = true) (hi : (P.info? t).map (·.size) = some cs.length) (hN : Nat.blt d N = true)
   (next : W P N ops Q rest ((d, .agg cs.toArray) :: l) w) : W P N ops Q (⟨some d, .load t x, ty, pos, aft, none⟩ :: rest) l w :=
 W.op rfl rfl hN (fun f hf => by simp [execOp, hf.ev hx, Instr.loadAt, Instr.sureAddr, run_loadRow w ad t cs dd hc hT hd hi]) next
theorem W.storeB {t : TypeId} {g o : Nat} {v : Value} {cs : List Value} (vs : List Value) (hx : ev l x = some (.pointer (some ⟨g, o, none⟩))) (hy : ev l y = some v) (hv : v.cells = vs.toArray) (hb : Bk w g cs) (hl : o + vs.length ≤ cs.length) (hi : (P.info? t).map (·.size) = some vs.length) (h1 : ∀ u ∈ vs, u.oneCell' = true)
   (next : ∀ w', Chg (fun k => k = g) w w' → Bk w' g (splice cs o vs) → W P N ops Q rest l w') : W P N ops Q (⟨none, .store t x y, ty, pos, aft, none⟩ :: rest) l w := by
 obtain ⟨h2, h3⟩ := Bk.setCells vs o w g cs hb
 refine W.opSkip (w' := w.setCells g o vs) rfl rfl (fun a ha => ?_) (next _ h3 h2)
 simp [execOp, ha.ev hx, ha.ev hy, Instr.storeAt, Instr.sureAddr, run_storeAny w g o t v vs cs hv hb hl hi h1]
theorem W.storeA {t : TypeId} {g : Nat} {cs : List Value} (vs : List Value) (hx : ev l x = some (.pointer (some ⟨g, 0, none⟩))) (hy : ev l y = some (.agg vs.toArray)) (hb : Bk w g cs) (hl : vs.length = cs.length) (hi : (P.info? t).map (·.size) = some vs.length) (h1 : ∀ u ∈ vs, u.oneCell' = true)
   (next : ∀ w', Chg (fun k => k = g) w w' → Bk w' g vs → W P N ops Q rest l w') : W P N ops Q (⟨none, .store t x y, ty, pos, aft, none⟩ :: rest) l w :=
 W.storeB vs hx hy rfl hb (by omega) hi h1 fun w' hc h => next w' hc (by rwa [splice_all hl] at h)
theorem W.store1 {t : TypeId} {g o : Nat} {v : Value} {cs : List Value} (hx : ev l x = some (.pointer (some ⟨g, o, none⟩))) (hy : ev l y = some v) (hv : v.oneCell' = true) (hb : Bk w g cs) (hl : o < cs.length) (hi : (P.info? t).map (·.size) = some 1)
   (next : ∀ w', Chg (fun k => k = g) w w' → Bk w' g (cs.set o v) → W P N ops Q rest l w') : W P N ops Q (⟨none, .store t x y, ty, pos, aft, none⟩ :: rest) l w :=
 W.storeB [v] hx hy (by rw [cells_one hv]) hb (by simp; omega) (by simpa using hi) (fun u hu => by simp at hu; subst hu; exact hv) next
theorem W.indexA {t e n sz bytes g o : Nat} {z : Value} {k : IntKind} {i : Int} (j : Nat) (hE : Elem P e sz bytes z) (hT : P.underlying t = some (.array n e)) (hx : ev l x = some (.pointer (some ⟨g, o, none⟩))) (hy : ev l y = some (.int k i)) (hj : i = (j : Int)) (hn : j < n) (hN : Nat.blt d N = true)
   (next : W P N ops Q rest ((d, .pointer (some ⟨g, o + j * sz, none⟩)) :: l) w) : W P N ops Q (⟨some d, .indexAddr t x y, ty, pos, aft, none⟩ :: rest) l w := by
 obtain ⟨info, hi', hz, hsz, hby⟩ := hE.out
 subst hj
 refine W.op rfl rfl hN (fun f ha => ?_) next
 have h0 : (0 : Int) ≤ (j : Int) ∧ (j : Int) < (n : Int) := by omega
 simp [execOp, ha.ev hx, ha.ev hy, Instr.indexAt, asIntOf, run_underlying hT, Instr.sureAddr, h0, hn, sizeOf, typeInfo, hi', hsz, add_mk]
theorem W.indexA1 {t e n bytes g j : Nat} {z : Value} {k : IntKind} (hE : Elem P e 1 bytes z) (hT : P.underlying t = some (.array n e)) (hx : ev l x = some (.pointer (some ⟨g, 0, none⟩))) (hy : ev l y = some (.int k (j : Int))) (hn : j < n) (hN : Nat.blt d N = true)
   (next : W P N ops Q rest ((d, .pointer (some ⟨g, j, none⟩)) :: l) w) : W P N ops Q (⟨some d, .indexAddr t x y, ty, pos, aft, none⟩ :: rest) l w :=
 W.indexA j hE hT hx hy rfl hn hN (by rw [Nat.zero_add, Nat.mul_one]; exact next)
theorem W.loadB {t : TypeId} {g j : Nat} {cs : List Value} {v : Value} {dd : TypeDesc} (hx : ev l x = some (.pointer (some ⟨g, j, none⟩))) (hT : P.underlying t = some dd) (ha : dd.isRow = false) (hb : Bk w g cs) (hv : cs[j]? = some v) (hN : Nat.blt d N = true)
   (next : W P N ops Q rest ((d, v) :: l) w) : W P N ops Q (⟨some d, .load t x, ty, pos, aft, none⟩ :: rest) l w :=
 W.load hx hT ha (hb.cell hv) hN next
theorem W.indexV {t e n bytes : Nat} {z : Value} {k : IntKind} {i : Int} {cs : List Value} {v : Value} {dd : TypeDesc} (j : Nat) (hE : Elem P e 1 bytes z) (hT : P.underlying t = some (.array n e)) (hd : P.underlying e = some dd) (hrow : dd.isRow = false) (hx : ev l x = some (.agg cs.toArray)) (hy : ev l y = some (.int k i)) (hj : i = (j : Int)) (hn : j < n) (hv : cs[j]? = some v) (hN : Nat.blt d N = true)
   (next : W P N ops Q rest ((d, v) :: l) w) : W P N ops Q (⟨some d, .index t x y, ty, pos, aft, none⟩ :: rest) l w := by
 obtain ⟨info, hi', hz, hsz, hby⟩ := hE.out
 subst hj
 refine W.op rfl rfl hN (fun f ha => ?_) next
 have h0 : (0 : Int) ≤ (j : Int) ∧ (j : Int) < (n : Int) := by omega
 have hagg : (isAgg e).run P w = .ok false w := by
   unfold isAgg
   rw [Sem.run_bind, run_underlying hd w]
   cases dd <;> simp_all
 simp [execOp, ha.ev hx, ha.ev hy, Instr.index, asIntOf, run_underlying hT, h0, hn, sizeOf, typeInfo, hi', hsz, part, hagg, hv]
theorem W.buildA {t e n bytes : Nat} {z : Value} {ps : List (Nat × Operand)} {vs : List (Nat × Value)} (cells zs : List Value) (hE : Elem P e 1 bytes z) (hT : P.underlying t = some (.array n e)) (hz : (P.info? t).map (·.zero) = some (some (.agg zs.toArray))) (hp : evps l ps = some vs)
   (hv : vs = enum 0 cells) (h1 : ∀ u ∈ cells, u.oneCell' = true) (hl : zs.length = cells.length) (hN : Nat.blt d N = true)
   (next : W P N ops Q rest ((d, .agg cells.toArray) :: l) w) : W P N ops Q (⟨some d, .build t ps.toArray, ty, pos, aft, none⟩ :: rest) l w := by
 obtain ⟨i, hi, hz', hsz, hby⟩ := hE.out
 subst hv
 refine W.op rfl rfl hN (fun a ha => ?_) next
 have hps : (ps.toArray.map fun (i, x) => (i, a.eval x)) = (enum 0 cells).toArray := by
   rw [List.map_toArray]; congr 1; exact ha.evps hp
 have hf : Instr.fill (fun i => some (i * 1, 1)) zs.toArray (enum 0 cells) = some cells.toArray := by
   have := fill_enum cells zs 0 [] h1 rfl hl
   simpa using this
 cases hq : P.info? t with
 | none => simp [hq] at hz
 | some it =>
   have hs : it.zero = some (.agg zs.toArray) := by simpa [hq] using hz
   simp only [execOp, hps, Instr.build, zeroValue, typeInfo]
   simp [hq, hs, run_underlying hT, sizeOf, typeInfo, hi, hsz, Value.cells]
   simp at hf
   rw [hf]
   rfl
theorem W.sliceA {t e n sz bytes g o : Nat} {z : Value} (hE : Elem P e sz bytes z) (hT : P.underlying t = some (.array n e)) (hx : ev l x = some (.pointer (some ⟨g, o, none⟩))) (hN : Nat.blt d N = true)
   (next : W P N ops Q rest ((d, .slice (some ⟨g, o, none⟩) n n) :: l) w) : W P N ops Q (⟨some d, .slice t x none none none, ty, pos, aft, none⟩ :: rest) l w := by
 obtain ⟨i, hi, hz', hsz, hby⟩ := hE.out
 refine W.op rfl rfl hN (fun a ha => ?_) next
 simp [execOp, ha.ev hx, Instr.sliceAt, run_underlying hT, Instr.sureAddr, Instr.sliceBounds, sizeOf, typeInfo, hi, hsz, add_mk]
theorem W.arrayAt {t e n m c : Nat} {ao : Option Addr} (hT : P.underlying t = some (.array n e)) (hx : ev l x = some (.slice ao m c)) (hm : n ≤ m) (hN : Nat.blt d N = true)
   (next : W P N ops Q rest ((d, .pointer ao) :: l) w) : W P N ops Q (⟨some d, .sliceToArrayPointer t x, ty, pos, aft, none⟩ :: rest) l w := by
 refine W.op rfl rfl hN (fun a ha => ?_) next
 simp [execOp, ha.ev hx, Instr.arrayAt, run_underlying hT, Nat.not_lt.2 hm]
theorem W.eqlKey {e n : Nat} {a b : List UInt8} (hT : P.underlying T = some (.array n e)) (he : P.underlying e = some (.int .u8)) (hi : (P.info? e).map (·.size) = some 1) (hx : ev l x = some (.agg (a.map byteV).toArray)) (hy : ev l y = some (.agg (b.map byteV).toArray)) (ha : a.length = n) (hb : b.length = n) (hg : P.eqGuardType P.depth T = false) (hN : Nat.blt d N = true)
   (next : W P N ops Q rest ((d, .bool (decide (a = b))) :: l) w) : W P N ops Q (⟨some d, .binOp .eql T x y T', ty, pos, aft, none⟩ :: rest) l w :=
 W.op rfl rfl hN (fun f hf => by
   have hsz : ∀ w, (sizeOf e).run P w = .ok 1 w := by
     intro w
     cases hq : P.info? e with
     | none => simp [hq] at hi
     | some i =>
       have hs : i.size = 1 := by simpa [hq] using hi
       simp [sizeOf, typeInfo, hq, hs]
   have he' : (eqGuard .eql T x y (.agg (a.map byteV).toArray) (.agg (b.map byteV).toArray)).run P w = .ok () w := by simp [eqGuard, hg]
   have hr := run_eql_bytes (P := P) w T e n hT he hsz a b ha hb
   have ec : Extern.Stop.cell = byteV := rfl
   have eb : (a == b) = decide (a = b) := by rw [Bool.eq_iff_iff]; simp
   rw [ec, eb] at hr
   simp only [execOp, hf.ev hx, hf.ev hy, he', Sem.run_bind, Sem.run_pure, Result.andThen_ok, hr]) next
section
variable {fn : Func} {R : Value → World → Prop}
theorem run_results_cell {p : Tmp} {t : TypeId} (hr : fn.results = #[.cell p t]) (tmps : Array Value) {ad : Addr} {v : Value} (hp : tmps[p]? = some (.pointer (some ad))) (hl : (loadVar t ad).run P w = .ok v w) : (results fn tmps).run P w = .ok v w := by
 simp only [results, hr]
 simp [Sem.run_bind, Result.andThen, hp, asAddr, hl]
theorem run_results_tmp_cell {u p : Tmp} {t : TypeId} (hr : fn.results = #[.tmp u, .cell p t]) (tmps : Array Value) {ad : Addr} {v0 v : Value} (hu : tmps[u]? = some v0) (hp : tmps[p]? = some (.pointer (some ad))) (hl : (loadVar t ad).run P w = .ok v w) : (results fn tmps).run P w = .ok (.tuple #[v0, v]) w := by
 simp only [results, hr]
 simp [Sem.run_bind, Result.andThen, hu, hp, asAddr, hl]
theorem At.retTC {u p : Tmp} {t : TypeId} {ad : Addr} {v0 : Value} {cs : List Value} {dd : TypeDesc} (hr : fn.results = #[.tmp u, .cell p t]) (hu : look l u = some v0) (hp : look l p = some (.pointer (some ad))) (hc : Cells w ad cs) (hT : P.underlying t = some dd) (hd : dd.isRow = true) (hi : (P.info? t).map (·.size) = some cs.length) (hR : R (.tuple #[v0, .agg cs.toArray]) w) : At P N (Ret P fn R) .ret l w :=
 ⟨fun a ha => bodyPost_ret (run_results_tmp_cell hr a.tmps (ha.mem _ _ hu) (ha.mem _ _ hp) (run_loadRow w ad t cs dd hc hT hd hi)) ha.defers ⟨_, rfl, hR⟩⟩
theorem At.retC {p : Tmp} {t : TypeId} {ad : Addr} {cs : List Value} {dd : TypeDesc} (hr : fn.results = #[.cell p t]) (hp : look l p = some (.pointer (some ad))) (hc : Cells w ad cs) (hT : P.underlying t = some dd) (hd : dd.isRow = true) (hi : (P.info? t).map (·.size) = some cs.length) (hR : R (.agg cs.toArray) w) : At P N (Ret P fn R) .ret l w :=
 ⟨fun a ha => bodyPost_ret (run_results_cell hr a.tmps (ha.mem _ _ hp) (run_loadRow w ad t cs dd hc hT hd hi)) ha.defers ⟨_, rfl, hR⟩⟩
end
end
theorem info_size {P : Program} {t : TypeId} {n : Nat} (h : (P.info? t).map (·.size) = some n) (w : World) : (sizeOf t).run P w = .ok n w := by
 cases hq : P.info? t with
 | none => simp [hq] at h
 | some i =>
   have hs : i.size = n := by simpa [hq] using h
   simp [sizeOf, typeInfo, hq, hs]
theorem iV {k : IntKind} {a b : Int} (h : a = b) : Value.int k a = .int k b := by rw [h]
def glue (P : Program) : Nat → List (Field × Option (List IntKind)) → Option (List IntKind)
  | _, [] => some []
  | off, (f, some ks) :: r => bif Nat.beq f.offset off && !(f.name == "_") && (match P.info? f.type with | some i => Nat.beq i.size ks.length | none => false) then (glue P (off + ks.length) r).map (ks ++ ·) else none
  | _, (_, none) :: _ => none
def plain (P : Program) : Nat → TypeId → Option (List IntKind)
  | 0, _ => none
  | d + 1, t => match P.underlying t with
    | some (.int k) => some [k]
    | some (.array n e) => match P.underlying e, P.info? e with
      | some (.int k), some i => bif Nat.beq i.size 1 && Nat.blt 0 d then some (List.replicate n k) else none
      | _, _ => none
    | some (.struct fs) => bif P.stoodInHeld t then none else glue P 0 (fs.toList.map fun f => (f, plain P d f.type))
    | _ => none
def Typed : List IntKind → List Value → Prop
  | [], [] => True
  | k :: ks, v :: vs => (∃ a, v = .int k a) ∧ Typed ks vs
  | _, _ => False
def numOf : Value → Int
  | .int _ a => a
  | _ => 0
def nums (vs : List Value) : List Int := vs.map numOf
def mkV (P : Program) (t : TypeId) (cs : List Value) : Value := match P.underlying t with
  | some (.int _) => cs.headD undef
  | _ => .agg cs.toArray
section
variable {P : Program} {N : Nat} {Q : Exit → Act → World → Prop} {l : Env} {w : World} {ops : Array Oper} {rest : List Oper} {d : Tmp} {ty : TypeId} {pos : String} {aft : Array Edge}
variable {x y : Operand} {T T' : TypeId}
structure Fld (P : Program) (s : TypeId) (i off size : Nat) (t : TypeId) : Prop where
  out : ∃ fs f, P.underlying s = some (.struct fs) ∧ fs[i]? = some f ∧ f.offset = off ∧ f.type = t ∧ (P.info? t).map (·.size) = some size
def fldB (P : Program) (s : TypeId) (i : Nat) : Option (Nat × Nat × TypeId) := match P.underlying s with
  | some (.struct fs) => match fs[i]? with
    | some f => match P.info? f.type with
      | some n => some (f.offset, n.size, f.type)
      | none => none
    | none => none
  | _ => none
theorem Fld.of {s : TypeId} {i off size : Nat} {t : TypeId} (h : fldB P s i = some (off, size, t)) : Fld P s i off size t := by
 unfold fldB at h
 split at h
 rename_i fs hfs
 split at h
 rename_i f hf
 split at h
 rename_i n hn
 simp only [Option.some.injEq, Prod.mk.injEq] at h
 obtain ⟨h1, h2, h3⟩ := h
 exact ⟨fs, f, hfs, hf, h1, h3, by rw [← h3, hn]; simp [h2]⟩
 cases h
 cases h
 cases h
theorem W.fieldAddr {s : TypeId} {i off size : Nat} {t : TypeId} {ad : Addr} (hF : Fld P s i off size t) (h0 : Nat.blt 0 size = true) (hx : ev l x = some (.pointer (some ad))) (hN : Nat.blt d N = true)
   (next : W P N ops Q rest ((d, .pointer (some (ad.add off))) :: l) w) : W P N ops Q (⟨some d, .fieldAddr s x i, ty, pos, aft, none⟩ :: rest) l w := by
 obtain ⟨fs, f, hs, hf, rfl, rfl, hi⟩ := hF.out
 refine W.op rfl rfl hN (fun a ha => ?_) next
 have h0' : ¬ size = 0 := by have := lt_of_blt h0; omega
 simp [execOp, ha.ev hx, Instr.fieldAt, run_underlying hs, hf, Instr.sureAddr, fieldPlace, info_size hi, h0']
theorem W.fieldB {s : TypeId} {i off size : Nat} {t : TypeId} {g o : Nat} (hF : Fld P s i off size t) (h0 : Nat.blt 0 size = true) (hx : ev l x = some (.pointer (some ⟨g, o, none⟩))) (hN : Nat.blt d N = true)
   (next : W P N ops Q rest ((d, .pointer (some ⟨g, o + off, none⟩)) :: l) w) : W P N ops Q (⟨some d, .fieldAddr s x i, ty, pos, aft, none⟩ :: rest) l w :=
 W.fieldAddr hF h0 hx hN (by rw [add_mk]; exact next)
theorem fill_cons {place : Nat → Option (Nat × Nat)} {cs us : List Value} {i off : Nat} {v : Value} {rest : List (Nat × Value)} (hv : v.cells = us.toArray) (hp : place i = some (off, us.length)) (hl : off + us.length ≤ cs.length) :
   Instr.fill place cs.toArray ((i, v) :: rest) = Instr.fill place (splice cs off us).toArray rest := by
 have hfold : ∀ (us : List Value) (k : Nat) (cs : List Value), off + k + us.length ≤ cs.length → (us.zipIdx k).foldl (fun (cs : Array Value) (p : Value × Nat) => cs.setIfInBounds (off + p.2) p.1) cs.toArray = (splice cs (off + k) us).toArray := by
   intro us
   induction us with
   | nil => intro k cs _; simp [splice]
   | cons u r ih =>
     intro k cs hl
     simp only [List.zipIdx_cons, List.foldl_cons]
     have e : cs.toArray.setIfInBounds (off + k) u = (cs.set (off + k) u).toArray := by simp
     rw [e, ih (k + 1) (cs.set (off + k) u) (by simp at hl ⊢; omega)]
     congr 1
 have h2 := hfold us 0 cs (by omega)
 simp only [Instr.fill, hp, hv]
 rw [if_neg (by simp; omega)]
 congr 1
 have e3 : us.toArray.zipIdx.foldl (fun (cs : Array Value) (p : Value × Nat) => cs.setIfInBounds (off + p.2) p.1) cs.toArray = (us.zipIdx 0).foldl (fun (cs : Array Value) (p : Value × Nat) => cs.setIfInBounds (off + p.2) p.1) cs.toArray := by
   rw [← Array.foldl_toList]; simp
 exact e3.trans h2
theorem W.buildS {t : TypeId} {fs : Array Field} {ps : List (Nat × Operand)} {vs : List (Nat × Value)} (places : List (Nat × Nat)) (cells zs : List Value) (hT : P.underlying t = some (.struct fs)) (hz : (P.info? t).map (·.zero) = some (some (.agg zs.toArray)))
   (hpl : fs.toList.map (fun f => (P.info? f.type).map (fun n => (f.offset, n.size))) = places.map some) (hp : evps l ps = some vs)
   (hf : Instr.fill (fun i => places[i]?) zs.toArray vs = some cells.toArray) (hN : Nat.blt d N = true)
   (next : W P N ops Q rest ((d, .agg cells.toArray) :: l) w) : W P N ops Q (⟨some d, .build t ps.toArray, ty, pos, aft, none⟩ :: rest) l w := by
 refine W.op rfl rfl hN (fun a ha => ?_) next
 have hps : (ps.toArray.map fun (i, x) => (i, a.eval x)) = vs.toArray := by
   rw [List.map_toArray]; congr 1; exact ha.evps hp
 have hm : ∀ (fl : List Field) (pl : List (Nat × Nat)), fl.map (fun f => (P.info? f.type).map (fun n => (f.offset, n.size))) = pl.map some → ∀ w, (fl.mapM (m := Sem) fun f => do pure (f.offset, ← sizeOf f.type)).run P w = .ok pl w := by
   intro fl
   induction fl with
   | nil => intro pl h w; cases pl with
     | nil => simp
     | cons p r => cases h
   | cons f r ih =>
     intro pl h w
     cases pl with
     | nil => cases h
     | cons p pr =>
       simp only [List.map_cons, List.cons.injEq] at h
       obtain ⟨n, hn, rfl⟩ := Option.map_eq_some_iff.1 h.1
       have hsz : (sizeOf f.type).run P w = .ok n.size w := info_size (by simp [hn]) w
       simp only [List.mapM_cons, Sem.run_bind, hsz, Result.andThen_ok, Sem.run_pure, ih pr h.2 w]
 have hma : ∀ w, (fs.mapM (m := Sem) fun f => do pure (f.offset, ← sizeOf f.type)).run P w = .ok places.toArray w := by
   intro w
   rw [Array.mapM_eq_mapM_toList, ← bind_pure_comp, Sem.run_bind, hm fs.toList places hpl w]
   rfl
 cases hq : P.info? t with
 | none => simp [hq] at hz
 | some it =>
   have hs : it.zero = some (.agg zs.toArray) := by simpa [hq] using hz
   have hf' : Instr.fill (fun i => places.toArray[i]?) zs.toArray vs = some cells.toArray := by simpa using hf
   have hzv : ∀ w, (zeroValue t).run P w = .ok (.agg zs.toArray) w := fun w => by simp [zeroValue, typeInfo, hq, hs]
   simp only [execOp, hps, Instr.build, Sem.run_bind, hzv, Result.andThen_ok, run_underlying hT, hma, Value.cells, hf', Sem.run_pure]
theorem W.litS {t e sz bytes : Nat} {z : Value} (cells : List Value) (hE : Elem P e sz bytes z) (hT : P.underlying t = some (.slice e)) (hx : ev l x = some (.agg cells.toArray)) (hl : cells.length = sz) (hs : sz ≤ 100000) (hN : Nat.blt d N = true)
   (next : ∀ g w', g = w.heap.size → Ext w w' → w'.ownsRow w.heap.size e sz (.slice (some ⟨g, 0, none⟩) 1 1) 1 cells → Sl w' (some ⟨g, 0, none⟩) 1 1 sz cells → W P N ops Q rest ((d, .slice (some ⟨g, 0, none⟩) 1 1) :: l) w') :
   W P N ops Q (⟨some d, .buildSlice t 1 #[(0, x)], ty, pos, aft, none⟩ :: rest) l w := by
 have hpos := hE.pos
 have hp : evps l [(0, x)] = some [(0, .agg cells.toArray)] := by simp [evps, hx]
 have hf : Instr.fill (fun i => some (i * sz, sz)) ((Array.range (1 * sz)).map (z.cells[· % z.cells.size]!)) [(0, .agg cells.toArray)] = some cells.toArray := by
   obtain ⟨zs, hzs⟩ : ∃ zs : List Value, zs = ((Array.range (1 * sz)).map (z.cells[· % z.cells.size]!)).toList := ⟨_, rfl⟩
   have h1 : (Array.range (1 * sz)).map (z.cells[· % z.cells.size]!) = zs.toArray := by rw [hzs]
   have h2 : zs.length = sz := by rw [hzs]; simp
   rw [h1, fill_cons (us := cells) (off := 0) rfl (by rw [hl, Nat.zero_mul]) (by omega), splice_all (by omega)]
   rfl
 refine W.buildSlice hE hT hp hf (by omega) (by omega) (by omega) hN fun g w' hg hx ho => ?_
 obtain ⟨ao, c, he, hs, _⟩ := ownsRow_form ho
 injection he with h1 h2 h3
 subst h1; subst h3
 exact next g w' hg hx ho hs
theorem Bk.cellsN {g o n : Nat} {cs : List Value} (h : Bk w g cs) : Cells w ⟨g, o, none⟩ ((cs.drop o).take n) := by
 have := (h.cells (o := o)).take n
 exact this
theorem W.maxI {a b : Int} {k k' : IntKind} {tys : Array TypeId} (hx : ev l x = some (.int k a)) (hy : ev l y = some (.int k' b)) (hN : Nat.blt d N = true)
   (next : W P N ops Q rest ((d, .int k (max a b)) :: l) w) : W P N ops Q (⟨some d, .call ⟨.builtin .max, #[x, y], tys⟩, ty, pos, aft, none⟩ :: rest) l w :=
 W.op rfl rfl hN (fun f ha => by
   have e : (if b > a then b else a) = max a b := by rw [Int.max_def]; split <;> split <;> omega
   simp only [execOp, resolve, invoke, builtin, List.map_toArray, List.map_cons, List.map_nil, ha.ev hx, ha.ev hy, Sem.run_bind, Sem.run_pure, Result.andThen_ok]
   simp [Builtin.max_, Builtin.max2, e]) next
theorem W.minI {a b : Int} {k k' : IntKind} {tys : Array TypeId} (hx : ev l x = some (.int k a)) (hy : ev l y = some (.int k' b)) (hN : Nat.blt d N = true)
   (next : W P N ops Q rest ((d, .int k (min a b)) :: l) w) : W P N ops Q (⟨some d, .call ⟨.builtin .min, #[x, y], tys⟩, ty, pos, aft, none⟩ :: rest) l w :=
 W.op rfl rfl hN (fun f ha => by
   have e : (if b < a then b else a) = min a b := by rw [Int.min_def]; split <;> split <;> omega
   simp only [execOp, resolve, invoke, builtin, List.map_toArray, List.map_cons, List.map_nil, ha.ev hx, ha.ev hy, Sem.run_bind, Sem.run_pure, Result.andThen_ok]
   simp [Builtin.min_, Builtin.min2, e]) next
theorem W.eqlNil {ao : Option Addr} {n c e : Nat} (hT : P.underlying T = some (.slice e)) (hx : ev l x = some (.slice ao n c)) (hy : ev l y = some (.slice none 0 0)) (hN : Nat.blt d N = true)
   (next : W P N ops Q rest ((d, .bool ao.isNone) :: l) w) : W P N ops Q (⟨some d, .binOp .eql T x y T', ty, pos, aft, none⟩ :: rest) l w :=
 W.op rfl rfl hN (fun f hf => by
   have he : (eqGuard .eql T x y (.slice ao n c) (.slice none 0 0)) = pure () := by unfold eqGuard; split <;> rfl
   have hr : (binOp .eql T (.slice ao n c) (.slice none 0 0)).run P w = .ok (.bool ao.isNone) w := by
     simp only [binOp]
     simp [run_equal_slice_nil w T e ao n c hT]
   simp only [execOp, hf.ev hx, hf.ev hy, he, Sem.run_bind, Sem.run_pure, Result.andThen_ok, hr]) next
theorem W.lit0 {t e sz bytes : Nat} {z : Value} (hE : Elem P e sz bytes z) (hT : P.underlying t = some (.slice e)) (hN : Nat.blt d N = true)
   (next : ∀ g w', g = w.heap.size → Ext w w' → w'.ownsRow w.heap.size e sz (.slice (some ⟨g, 0, none⟩) 0 0) 0 [] → W P N ops Q rest ((d, .slice (some ⟨g, 0, none⟩) 0 0) :: l) w') :
   W P N ops Q (⟨some d, .buildSlice t 0 #[], ty, pos, aft, none⟩ :: rest) l w := by
 obtain ⟨i, hi, hz, hsz, hby⟩ := hE.out
 refine W.op (v := .slice (some ⟨w.heap.size, 0, none⟩) 0 0) (w' := w.alloc (.cells #[] e)) rfl rfl hN (fun a ha => ?_) (next _ _ rfl (Ext.alloc _ _) ?_)
 have hrun : (Instr.buildSlice t 0 #[]).run P w = .ok (.slice (some ⟨w.heap.size, 0, none⟩) 0 0) (w.alloc (.cells #[] e)) := by
   have h0 : Array.range 0 = #[] := by simp
   simp [Instr.buildSlice, run_underlying hT, sizeOf, typeInfo, hi, Instr.fill, h0, newRow, Array.map_empty]
 simp only [execOp, Sem.run_bind, Sem.run_pure, Result.andThen_ok, hrun, Array.map_empty]
 have := World.ownsRow_lit (base := w.heap.size) (e := e) (size := sz) w #[] 0 (Nat.le_refl _) (by decide) (by simp)
 simpa using this
end
theorem Oper.wp_mono2 {P : Program} {o : Oper} {a : Act} {w : World} {K K' : Act → World → Prop} {Q Q' : Exit → Act → World → Prop} (h : ∀ a w, K a w → K' a w) (hq : ∀ e a w, Q e a w → Q' e a w)
   (hh : o.wp P a w K Q) : o.wp P a w K' Q' := by
 unfold Oper.wp at *
 generalize (execOp a.eval o).run P w = r at *
 cases r with
 | ok n w' =>
   cases n <;> simp only [Oper.upon] at hh ⊢ <;>
     first
       | exact h _ _ hh
       | exact Calls.mono hh (fun e w'' he => by
           cases e with
           | returned v => exact h _ _ he
           | panicked c => exact hq _ _ _ he
           | outgrown => obtain ⟨a, w, hx⟩ := he; exact ⟨a, w, hq _ _ _ hx⟩)
       | exact Rows.mono hh (fun _ _ he => h _ _ he)
 | halt x w' => cases x <;> simp only [Oper.upon] at hh ⊢ <;> first | exact hq _ _ _ hh | exact hh
theorem look_append (pre L : Env) (t : Nat) : look (pre ++ L) t = match look pre t with
   | some v => some v
   | none => look L t := by
 induction pre with
 | nil => simp [look]
 | cons p r ih =>
   obtain ⟨k, v⟩ := p
   by_cases e : k = t
   subst e; rw [List.cons_append, look_self, look_self]
   rw [List.cons_append, look_ne e, look_ne e, ih]
theorem Sub.back {L : Env} (pre : Env) (h : Sub (pre ++ L) L) : Sub L (pre ++ L) := by
 intro t u hu
 rw [look_append]
 split
 rename_i v hv
 have := h t v (by rw [look_append, hv])
 rw [hu] at this
 exact this.symm
 exact hu
def dstOf (ops : Array Oper) (j : Nat) : Option Nat := (ops[j]?).bind (·.dst)
def push (d : Option Nat) (v : Value) (E : Env) : Env := match d with
  | some d => (d, v) :: E
  | none => E
def Val (d : Option Nat) (L : Env) (v : Value) : Prop := ∀ t, d = some t → look L t = some v
theorem look_push_ne {d : Option Nat} {v : Value} {E : Env} {t : Nat} (h : d ≠ some t) : look (push d v E) t = look E t := by
 cases d with
 | none => rfl
 | some d => exact look_ne (fun c : d = t => h (congrArg some c)) v E
theorem Val_push (d : Option Nat) (v : Value) (E : Env) : Val d (push d v E) v := by
 intro t ht
 subst ht
 exact look_self _ _ _
def Rel (Rs : List (Value → World → Prop)) (j : Nat) : Value → World → Prop := (Rs[j]?).getD (fun _ _ => False)
def dep (o : Oper) (j : Nat) : Bool := o.after.toList.any fun e => Region.binds .any e && Nat.beq e.on j
def depT (ops : Array Oper) : Nat → Oper → Nat → Bool
  | 0, o, j => dep o j
  | f + 1, o, j => dep o j || o.after.toList.any fun e => Region.binds .any e && (match ops[e.on]? with
    | some q => depT ops f q j
    | none => false)
def dT (ops : Array Oper) (k q : Nat) : Bool := match ops[k]? with
  | some o => depT ops ops.size o q
  | none => false
def Told (All : World → World → Prop) (Pre Post : Nat → World → World → Prop) (ops : Array Oper) (k : Nat) (w w' : World) : Prop :=
  All w w' ∧ ∀ q, q ≠ k → (dT ops k q = false → Pre q w w') ∧ (dT ops q k = false → Post q w w')
def StepPost (All : World → World → Prop) (Pre Post : Nat → World → World → Prop) (ops : Array Oper) (k N : Nat) (d : Option Nat) (R : Value → World → Prop) (E : Env) (w : World) : Exit → Act → World → Prop :=
  fun e a w' => e = .normal ∧ ∃ v, Has N (push d v E) a ∧ Told All Pre Post ops k w w' ∧ R v w'
def elemB (d : Nat) : List Nat → Bool
  | [] => false
  | k :: r => Nat.beq d k || elemB d r
def freeB (keys : List Nat) (i : Nat) : Nat → List Oper → Bool
  | _, [] => true
  | k, o :: r => (match o.dst with
    | some d => !elemB d keys || Nat.beq k i || dep o i
    | none => true) && freeB keys i (k + 1) r
def StepOK (All : World → World → Prop) (Pre Post : Nat → World → World → Prop) (P : Program) (N : Nat) (ops : Array Oper) (os : List Oper) (Rs : List (Value → World → Prop)) (l0 l1 : Env) (w0 : World) (k : Nat) (o : Oper) : Prop :=
  ∀ L w, Pre k w0 w → Sub l0 L → (freeB (l1.map (·.1)) k 0 os = true → Sub l1 L) → (∀ j, dep o j = true → ∃ v, Val (dstOf ops j) L v ∧ Rel Rs j v w) → W P N ops (StepPost All Pre Post ops k N (dstOf ops k) (Rel Rs k) L w) [o] L w
def StepsOK (All : World → World → Prop) (Pre Post : Nat → World → World → Prop) (P : Program) (N : Nat) (ops : Array Oper) (os : List Oper) (Rs : List (Value → World → Prop)) (l0 l1 : Env) (w0 : World) : Nat → List Oper → Prop
  | _, [] => True
  | k, o :: r => StepOK All Pre Post P N ops os Rs l0 l1 w0 k o ∧ StepsOK All Pre Post P N ops os Rs l0 l1 w0 (k + 1) r
def ordB : Nat → List Oper → Bool
  | _, [] => true
  | k, o :: r => (o.after.toList.all fun e => !Region.binds .any e || Nat.blt e.on k) && ordB (k + 1) r
def dstB : List Nat → List Oper → Bool
  | _, [] => true
  | seen, o :: r => match o.dst with
    | some d => !elemB d seen && dstB (d :: seen) r
    | none => dstB seen r
def Stable (G : World → World → Prop) (R : Value → World → Prop) : Prop := ∀ v w w', R v w → G w w' → R v w'
def StablesOK (G : Nat → World → World → Prop) : Nat → List (Value → World → Prop) → Prop
  | _, [] => True
  | k, R :: r => Stable (G k) R ∧ StablesOK G (k + 1) r
theorem Stables_get {G : Nat → World → World → Prop} : ∀ {Rs : List (Value → World → Prop)} {k : Nat}, StablesOK G k Rs → ∀ j, Stable (G (k + j)) (Rel Rs j) := by
 intro Rs
 induction Rs with
 | nil => intro k _ j v w w' h _; exact h.elim
 | cons R r ih =>
   intro k h j
   cases j with
   | zero => exact h.1
   | succ j => have := ih h.2 j
               rwa [show k + 1 + j = k + (j + 1) by omega] at this
theorem Steps_get {All : World → World → Prop} {Pre Post : Nat → World → World → Prop} {P : Program} {N : Nat} {ops : Array Oper} {os0 : List Oper} {Rs : List (Value → World → Prop)} {l0 l1 : Env} {w0 : World} : ∀ {os : List Oper} {k : Nat}, StepsOK All Pre Post P N ops os0 Rs l0 l1 w0 k os → ∀ i o, os[i]? = some o → StepOK All Pre Post P N ops os0 Rs l0 l1 w0 (k + i) o := by
 intro os
 induction os with
 | nil => intro k _ i o h; simp at h
 | cons q r ih =>
   intro k h i o ho
   cases i with
   | zero => obtain rfl := Option.some.inj ho; exact h.1
   | succ i =>
     have := ih h.2 i o (by simpa using ho)
     rwa [show k + 1 + i = k + (i + 1) by omega] at this
theorem ord_get : ∀ {os : List Oper} {k : Nat}, ordB k os = true → ∀ (i : Nat) (o : Oper), os[i]? = some o → ∀ e ∈ o.after, Region.binds .any e = true → e.on < k + i := by
 intro os
 induction os with
 | nil => intro k _ i o h; simp at h
 | cons q r ih =>
   intro k h i o ho e he hb
   simp only [ordB, Bool.and_eq_true] at h
   cases i with
   | zero =>
     obtain rfl := Option.some.inj ho
     have := List.all_eq_true.1 h.1 e (by simpa using he)
     rw [hb] at this
     exact lt_of_blt (by simpa using this)
   | succ i =>
     have := ih h.2 i o (by simpa using ho) e he hb
     omega
theorem elemB_iff (d : Nat) (l : List Nat) : elemB d l = true ↔ d ∈ l := by
 induction l with
 | nil => simp [elemB]
 | cons k r ih => simp [elemB, ih]
theorem dst_get : ∀ {os : List Oper} {seen : List Nat}, dstB seen os = true → ∀ (i : Nat) (o : Oper) (d : Nat), os[i]? = some o → o.dst = some d → d ∉ seen ∧ ∀ (j : Nat) (o' : Oper), j < i → os[j]? = some o' → o'.dst ≠ some d := by
 intro os
 induction os with
 | nil => intro seen _ i o d h; simp at h
 | cons q r ih =>
   intro seen h i o d ho hd
   unfold dstB at h
   split at h
   rename_i e he
   simp only [Bool.and_eq_true, Bool.not_eq_true'] at h
   cases i with
   | zero =>
     obtain rfl := Option.some.inj ho
     rw [he] at hd
     obtain rfl := Option.some.inj hd
     refine ⟨fun hc => ?_, fun j o' hj => by omega⟩
     rw [(elemB_iff e seen).2 hc] at h
     cases h.1
   | succ i =>
     obtain ⟨h2, h3⟩ := ih h.2 i o d (by simpa using ho) hd
     refine ⟨fun hc => h2 (List.mem_cons_of_mem _ hc), fun j o' hj ho' => ?_⟩
     cases j with
     | zero =>
       obtain rfl := Option.some.inj ho'
       rw [he]
       intro c
       exact h2 (by rw [Option.some.inj c]; exact List.mem_cons_self)
     | succ j => exact h3 j o' (by omega) (by simpa using ho')
   rename_i he
   cases i with
   | zero =>
     obtain rfl := Option.some.inj ho
     rw [he] at hd
     cases hd
   | succ i =>
     obtain ⟨h2, h3⟩ := ih h i o d (by simpa using ho) hd
     refine ⟨h2, fun j o' hj ho' => ?_⟩
     cases j with
     | zero =>
       obtain rfl := Option.some.inj ho'
       rw [he]
       intro c
       cases c
     | succ j => exact h3 j o' (by omega) (by simpa using ho')
theorem free_get {keys : List Nat} {i : Nat} : ∀ {os : List Oper} {b : Nat}, freeB keys i b os = true → ∀ (k : Nat) (o : Oper) (d : Nat), os[k]? = some o → o.dst = some d → d ∈ keys → b + k = i ∨ dep o i = true := by
 intro os
 induction os with
 | nil => intro b _ k o d h; simp at h
 | cons q r ih =>
   intro b h k o d ho hd hm
   simp only [freeB, Bool.and_eq_true] at h
   cases k with
   | zero =>
     obtain rfl := Option.some.inj ho
     have h1 := h.1
     rw [hd] at h1
     simp only [(elemB_iff d keys).2 hm, Bool.not_true, Bool.false_or, Bool.or_eq_true] at h1
     rcases h1 with h1 | h1
     exact Or.inl (by have := Nat.eq_of_beq_eq_true h1; omega)
     exact Or.inr h1
   | succ k =>
     rcases ih h.2 k o d (by simpa using ho) hd hm with h1 | h1
     exact Or.inl (by omega)
     exact Or.inr h1
theorem look_mem : ∀ (l : Env) (t : Nat) (u : Value), look l t = some u → t ∈ l.map (·.1) := by
 intro l
 induction l with
 | nil => intro t u h; simp [look] at h
 | cons p r ihl =>
   obtain ⟨k, x⟩ := p
   intro t u h
   by_cases e : k = t
   subst e; simp
   rw [look_ne e] at h; simp only [List.map_cons]; exact List.mem_cons_of_mem _ (ihl t u h)
def undone (n : Nat) (listed : Array Bool) : List Nat := (List.range n).filter fun i => !listed.getD i true
theorem undone_set {n : Nat} {listed : Array Bool} {i : Nat} (hs : listed.size = n) (hi : listed.getD i true = false) : (undone n (listed.setIfInBounds i true)).length < (undone n listed).length := by
 have hin : i < n := by
   rcases Nat.lt_or_ge i listed.size with h | h
   omega
   simp [Array.getD, Nat.not_lt.2 h] at hi
 have hget : ∀ j, (listed.setIfInBounds i true).getD j true = if j = i then true else listed.getD j true := by
   intro j
   by_cases hj : j < listed.size
   by_cases e : j = i
   subst e; simp [Array.getD, hj]
   rw [if_neg e]
   simp only [Array.getD, Array.size_setIfInBounds, hj, dif_pos]
   exact Array.getElem_setIfInBounds_ne _ (Ne.symm e)
   by_cases e : j = i
   subst e; omega
   rw [if_neg e]; simp [Array.getD, hj]
 have h1 : undone n (listed.setIfInBounds i true) = (undone n listed).filter fun j => !(Nat.beq j i) := by
   unfold undone
   rw [List.filter_filter]
   apply List.filter_congr
   intro j _
   rw [hget j]
   by_cases e : j = i
   subst e; simp
   rw [if_neg e]
   have : Nat.beq j i = false := by
     cases hb : Nat.beq j i with
     | false => rfl
     | true => exact absurd (Nat.eq_of_beq_eq_true hb) e
   simp [this]
 rw [h1]
 have hmem : i ∈ undone n listed := by unfold undone; rw [List.mem_filter]; exact ⟨List.mem_range.2 hin, by rw [hi]; rfl⟩
 exact List.length_filter_lt_length_iff_exists.2 ⟨i, hmem, by simp⟩
section
variable {P : Program} {N : Nat} {Q : Exit → Act → World → Prop}
theorem wpAny_done {ops : Array Oper} (fuel : Nat) (listed : Array Bool) (a : Act) (w : World) (hr : Region.ready .any ops listed = []) (h : Q .normal a w) : wpAny P .any ops Q fuel listed a w := by
 cases fuel with
 | zero => exact ⟨hr, h⟩
 | succ n => exact ⟨fun _ => h, fun i hi => by rw [hr] at hi; cases hi⟩
theorem ready_of {ops : Array Oper} {listed : Array Bool} (hord : ordB 0 ops.toList = true) (hs : listed.size = ops.size) {j : Nat} (hn : j < ops.size) (hb : listed.getD j true = false) (ih : ∀ k, k < j → listed.getD k true = true) : j ∈ Region.ready .any ops listed := by
 refine mem_ready.2 ⟨hb, ops[j], Array.getElem?_eq_getElem hn, fun e he hbd => ?_⟩
 have h1 := ord_get hord j ops[j] (by rw [Array.getElem?_toList]; exact Array.getElem?_eq_getElem hn) e he hbd
 have h2 := ih e.on (by omega)
 have h3 : e.on < listed.size := by omega
 simp [Array.getD, h3] at h2 ⊢
 exact h2
theorem all_listed {ops : Array Oper} {listed : Array Bool} (hord : ordB 0 ops.toList = true) (hs : listed.size = ops.size) (hr : Region.ready .any ops listed = []) : ∀ k j, j < k → j < ops.size → listed.getD j true = true := by
 intro k
 induction k with
 | zero => intro j hj; omega
 | succ k ih =>
   intro j hj hn
   cases hb : listed.getD j true with
   | true => rfl
   | false =>
     have hin := ready_of hord hs hn hb (fun k' hk' => ih k' (by omega) (by omega))
     rw [hr] at hin
     cases hin
theorem wpAny_tail {ops : Array Oper} {m : Nat} (hord : ordB 0 ops.toList = true) (htail : ∀ i, m ≤ i → ∀ o, ops[i]? = some o → ∀ j, j < i → depT ops ops.size o j = true) :
   ∀ (r i : Nat), m ≤ i → r = ops.size - i → i ≤ ops.size → ∀ (fuel : Nat) (listed : Array Bool) (a : Act) (w : World), listed.size = ops.size → r ≤ fuel → (∀ j, j < i → listed.getD j true = true) → (∀ k, i ≤ k → k < ops.size → listed.getD k true = false) →
     wpList P ops Q (ops.toList.drop i) a w → wpAny P .any ops Q fuel listed a w := by
 intro r
 induction r with
 | zero =>
   intro i hmi hr hin fuel listed a w hs hf h1 h2 hw
   rw [List.drop_eq_nil_of_le (by simp; omega)] at hw
   refine wpAny_done fuel listed a w ?_ hw
   cases hrd : Region.ready .any ops listed with
   | nil => rfl
   | cons q t =>
     exfalso
     have hq : q ∈ Region.ready .any ops listed := by rw [hrd]; exact List.mem_cons_self
     obtain ⟨h3, o1, ho1, _⟩ := mem_ready.1 hq
     rw [h1 q (by have := (Array.getElem?_eq_some_iff.1 ho1).1; omega)] at h3
     cases h3
 | succ r ih =>
   intro i hmi hr hin fuel listed a w hs hf h1 h2 hw
   cases fuel with
   | zero => omega
   | succ fuel =>
     have hi : i < ops.size := by omega
     have ho : ops[i]? = some ops[i] := Array.getElem?_eq_getElem hi
     have hready := ready_of hord hs hi (h2 i (Nat.le_refl _) hi) h1
     refine ⟨(fun hrd => by rw [hrd] at hready; cases hready), fun q hq => ?_⟩
     have hqi : q = i := by
       obtain ⟨h3, o1, ho1, hall⟩ := mem_ready.1 hq
       have hqn : q < ops.size := (Array.getElem?_eq_some_iff.1 ho1).1
       rcases Nat.lt_trichotomy q i with h | h | h
       rw [h1 q h] at h3; cases h3
       exact h
       exfalso
       -- q waits for someone from i on
       have ht := htail q (by omega) o1 ho1 i h
       have key : ∀ (f : Nat) (x : Nat) (p : Oper), ops[x]? = some p → (∀ e ∈ p.after, Region.binds .any e = true → e.on < i) → x ≤ ops.size → depT ops f p i = true → False := by
         intro f
         induction f with
         | zero =>
           intro x p hp hlt _ hd
           unfold depT dep at hd
           obtain ⟨e, he, hb⟩ := List.any_eq_true.1 hd
           simp only [Bool.and_eq_true] at hb
           have := hlt e (by simpa using he) hb.1
           have := Nat.eq_of_beq_eq_true hb.2
           omega
         | succ f ihf =>
           intro x p hp hlt hxn hd
           unfold depT at hd
           simp only [Bool.or_eq_true] at hd
           rcases hd with hd | hd
           unfold dep at hd
           obtain ⟨e, he, hb⟩ := List.any_eq_true.1 hd
           simp only [Bool.and_eq_true] at hb
           have := hlt e (by simpa using he) hb.1
           have := Nat.eq_of_beq_eq_true hb.2
           omega
           obtain ⟨e, he, hb⟩ := List.any_eq_true.1 hd
           simp only [Bool.and_eq_true] at hb
           have h5 := hlt e (by simpa using he) hb.1
           cases hqe : ops[e.on]? with
           | none => rw [hqe] at hb; cases hb.2
           | some r' =>
             rw [hqe] at hb
             refine ihf e.on r' hqe (fun e' he' hb' => ?_) (by omega) hb.2
             have := ord_get hord e.on r' (by rw [Array.getElem?_toList]; exact hqe) e' he' hb'
             omega
       refine key ops.size q o1 ho1 (fun e he hb => ?_) (by omega) ht
       have h4 := hall e he hb
       rcases Nat.lt_or_ge e.on i with h' | h'
       exact h'
       have h6 := ord_get hord q o1 (by rw [Array.getElem?_toList]; exact ho1) e he hb
       have h7 := h2 e.on h' (by omega)
       have h8 : e.on < listed.size := by omega
       simp [Array.getD, h8] at h4 h7
       rw [h4] at h7; cases h7
     subst hqi
     have hdrop : ops.toList.drop q = ops[q] :: ops.toList.drop (q + 1) := by
       rw [List.drop_eq_getElem_cons (by simpa using hi)]
       congr 1
     rw [hdrop] at hw
     have next : ∀ a' w', wpList P ops Q (ops.toList.drop (q + 1)) a' w' → wpAny P .any ops Q fuel (listed.setIfInBounds q true) a' w' := by
       intro a' w' hw'
       refine ih (q + 1) (by omega) (by omega) (by omega) fuel _ a' w' (by simpa using hs) (by omega) (fun j hj => ?_) (fun k hk1 hk2 => ?_) hw'
       by_cases e : q = j
       subst e
       have : q < listed.size := by omega
       simp [Array.getD, this]
       rw [getD_set_ne true e]; exact h1 j (by omega)
       rw [getD_set_ne true (by omega)]
       exact h2 k (by omega) hk2
     unfold wpOp
     simp only [ho]
     unfold wpList at hw
     split
     rename_i hwd
     rw [if_pos hwd] at hw
     exact hw.imp (Oper.wp_mono next) id
     rename_i hwd
     rw [if_neg hwd] at hw
     exact next _ _ hw
theorem depT_listed {ops : Array Oper} {listed : Array Bool} (hord : ordB 0 ops.toList = true) (hc : ∀ (k : Nat) (o : Oper), ops[k]? = some o → listed.getD k true = true → ∀ j, dep o j = true → listed.getD j true = true) :
   ∀ (f : Nat) (o : Oper) (j : Nat), (∀ i, dep o i = true → i < ops.size ∧ listed.getD i true = true) → depT ops f o j = true → listed.getD j true = true := by
 intro f
 induction f with
 | zero => intro o j ho hd; exact (ho j hd).2
 | succ f ih =>
   intro o j ho hd
   unfold depT at hd
   simp only [Bool.or_eq_true] at hd
   rcases hd with hd | hd
   exact (ho j hd).2
   obtain ⟨e, he, hb⟩ := List.any_eq_true.1 hd
   simp only [Bool.and_eq_true] at hb
   have h3 : dep o e.on = true := by
     unfold dep
     exact List.any_eq_true.2 ⟨e, he, by simp [hb.1]⟩
   obtain ⟨h1, h2⟩ := ho e.on h3
   cases hqe : ops[e.on]? with
   | none => rw [hqe] at hb; cases hb.2
   | some r =>
     rw [hqe] at hb
     refine ih r j (fun i hi => ?_) hb.2
     have h4 := hc e.on r hqe h2 i hi
     have h5 : i < e.on := by
       unfold dep at hi
       obtain ⟨e', he', hb'⟩ := List.any_eq_true.1 hi
       simp only [Bool.and_eq_true] at hb'
       have := ord_get hord e.on r (by rw [Array.getElem?_toList]; exact hqe) e' (by simpa using he') hb'.1
       have := Nat.eq_of_beq_eq_true hb'.2
       omega
     exact ⟨by omega, h4⟩
theorem dT_listed {ops : Array Oper} {listed : Array Bool} (hord : ordB 0 ops.toList = true) (hc : ∀ (k : Nat) (o : Oper), ops[k]? = some o → listed.getD k true = true → ∀ j, dep o j = true → listed.getD j true = true) {k j : Nat} (hk : ∀ o, ops[k]? = some o → ∀ i, dep o i = true → listed.getD i true = true) (hd : dT ops k j = true) : listed.getD j true = true := by
 unfold dT at hd
 split at hd
 rename_i o ho
 refine depT_listed hord hc _ o j (fun i hi => ⟨?_, hk o ho i hi⟩) hd
 unfold dep at hi
 obtain ⟨e', he', hb'⟩ := List.any_eq_true.1 hi
 simp only [Bool.and_eq_true] at hb'
 have h1 := ord_get hord k o (by rw [Array.getElem?_toList]; exact ho) e' (by simpa using he') hb'.1
 have h2 := Nat.eq_of_beq_eq_true hb'.2
 have h3 := (Array.getElem?_eq_some_iff.1 ho).1
 omega
 cases hd
theorem wpAny_rel {All : World → World → Prop} {Pre Post : Nat → World → World → Prop} (At' : ∀ a b c, All a b → All b c → All a c) (Gt : ∀ i a b c, Pre i a b → Pre i b c → Pre i a c) {ops : Array Oper} (m : Nat) {Rs : List (Value → World → Prop)} {l0 l1 : Env} {w0 : World} (hord : ordB 0 ops.toList = true) (hmle : m ≤ ops.size) (htail : ∀ i, m ≤ i → ∀ o, ops[i]? = some o → ∀ j, j < i → depT ops ops.size o j = true) (hdst : dstB (l0.map (·.1)) (ops.toList.take m) = true) (hst : StablesOK Post 0 Rs)
   (steps : StepsOK All Pre Post P N ops (ops.toList.take m) Rs l0 l1 w0 0 (ops.toList.take m)) (fin : ∀ L w, All w0 w → Sub l0 L → (∀ j, j < m → ∃ v, Val (dstOf ops j) L v ∧ Rel Rs j v w) → W P N ops Q (ops.toList.drop m) L w) :
   ∀ (fuel : Nat) (listed : Array Bool) (L : Env) (a : Act) (w : World), listed.size = ops.size → (undone ops.size listed).length ≤ fuel → (All w0 w ∧ ∀ q, q < m → listed.getD q true = false → Pre q w0 w) → Sub l0 L → (∀ j, j < m → listed.getD j true = true → ∃ v, Val (dstOf ops j) L v ∧ Rel Rs j v w) →
     (∀ t u, look l1 t = some u → (∀ k, k < m → listed.getD k true = true → dstOf ops k ≠ some t) → look L t = some u) → (∀ (k : Nat) (o : Oper), ops[k]? = some o → listed.getD k true = true → ∀ j, dep o j = true → listed.getD j true = true) →
     (m < ops.size → listed.getD m true = false) → Has N L a → wpAny P .any ops Q fuel listed a w := by
 have gone : ∀ (listed : Array Bool) (L : Env) (a : Act) (w : World), listed.size = ops.size → Region.ready .any ops listed = [] → (All w0 w ∧ ∀ q, q < m → listed.getD q true = false → Pre q w0 w) → Sub l0 L → (∀ j, j < m → listed.getD j true = true → ∃ v, Val (dstOf ops j) L v ∧ Rel Rs j v w) →
     (m < ops.size → listed.getD m true = false) → Has N L a → Q .normal a w := by
   intro listed L a w hs hr hx hl hv hlast ha
   have all := all_listed hord hs hr
   rcases (show m = ops.size ∨ m < ops.size by omega) with h | h
   have hw := (fin L w hx.1 hl fun j hj => hv j hj (all (j + 1) j (by omega) (by omega))).out a ha
   rw [List.drop_eq_nil_of_le (by rw [h]; simp)] at hw
   exact hw
   have h1 := hlast (by omega)
   rw [all (m + 1) m (by omega) (by omega)] at h1
   cases h1
 intro fuel
 induction fuel with
 | zero =>
   intro listed L a w hs hf hx hl hv hk hc hlast ha
   have hr : Region.ready .any ops listed = [] := by
     cases hr : Region.ready .any ops listed with
     | nil => rfl
     | cons i r =>
       exfalso
       have hm : i ∈ Region.ready .any ops listed := by rw [hr]; exact List.mem_cons_self
       obtain ⟨h0, _⟩ := mem_ready.1 hm
       have := undone_set hs h0
       omega
   exact ⟨hr, gone listed L a w hs hr hx hl hv hlast ha⟩
 | succ fuel ih =>
   intro listed L a w hs hf hx hl hv hk hc hlast ha
   refine ⟨fun hr => gone listed L a w hs hr hx hl hv hlast ha, fun i hi => ?_⟩
   obtain ⟨h0, o, ho, hall⟩ := mem_ready.1 hi
   have hin : i < ops.size := (Array.getElem?_eq_some_iff.1 ho).1
   have ho'' : ops.toList[i]? = some o := by rw [Array.getElem?_toList]; exact ho
   have hdeps : ∀ j, dep o j = true → j < i ∧ listed.getD j true = true := by
     intro j hj
     unfold dep at hj
     obtain ⟨e, he, hb⟩ := List.any_eq_true.1 hj
     simp only [Bool.and_eq_true] at hb
     obtain rfl := Nat.eq_of_beq_eq_true hb.2
     have he' : e ∈ o.after := by simpa using he
     have h1 := hall e he' hb.1
     have h2 := ord_get hord i o ho'' e he' hb.1
     have h3 : e.on < listed.size := by omega
     refine ⟨by omega, ?_⟩
     simp [Array.getD, h3] at h1 ⊢
     exact h1
   by_cases him : i < m
   have ho' : (ops.toList.take m)[i]? = some o := by rw [List.getElem?_take, if_pos him]; exact ho''
   have hstep := Steps_get steps i o ho' L w (by rw [Nat.zero_add]; exact hx.2 i him h0) hl ?_ ?_
   rw [Nat.zero_add] at hstep
   have hdo : dstOf ops i = o.dst := by simp [dstOf, ho]
   have hw := hstep.out a ha
   have next : ∀ a' w', StepPost All Pre Post ops i N (dstOf ops i) (Rel Rs i) L w .normal a' w' → wpAny P .any ops Q fuel (listed.setIfInBounds i true) a' w' := by
     rintro a' w' ⟨_, v, hA, hX, hR⟩
     refine ih _ _ a' w' (by simpa using hs) (by have := undone_set hs h0; omega) ?hx' ?_ ?_ ?_ ?_ ?_ hA
     case hx' =>
       refine ⟨At' _ _ _ hx.1 hX.1, fun q hqm hq => ?_⟩
       have hqi : q ≠ i := fun e => by
         subst e
         have h6 : q < listed.size := by omega
         simp [Array.getD, h6] at hq
       rw [getD_set_ne true (Ne.symm hqi)] at hq
       refine Gt _ _ _ _ (hx.2 q hqm hq) ((hX.2 q hqi).1 ?_)
       cases hdt : dT ops i q with
       | false => rfl
       | true =>
         have := dT_listed hord hc (k := i) (j := q) (fun o' ho2 j hj => by rw [ho] at ho2; obtain rfl := Option.some.inj ho2; exact (hdeps j hj).2) hdt
         rw [hq] at this; cases this
     intro t u hu
     have hne : dstOf ops i ≠ some t := by
       intro c
       rw [hdo] at c
       exact (dst_get hdst i o t ho' c).1 (look_mem _ _ _ hu)
     rw [look_push_ne hne]
     exact hl t u hu
     intro j hj hlj
     by_cases e : j = i
     subst e; exact ⟨v, Val_push _ _ _, hR⟩
     have hjl : listed.getD j true = true := by rwa [getD_set_ne true (Ne.symm e)] at hlj
     obtain ⟨u, hu, hr⟩ := hv j hj hjl
     refine ⟨u, ?_, Stables_get hst j _ _ _ hr (by
       rw [Nat.zero_add]
       refine (hX.2 j e).2 ?_
       cases hdt : dT ops j i with
       | false => rfl
       | true =>
         have := dT_listed hord hc (k := j) (j := i) (fun o' ho2 q hq => hc j o' ho2 hjl q hq) hdt
         rw [h0] at this; cases this)⟩
     intro t ht
     have hne : dstOf ops i ≠ some t := by
       intro c
       rw [hdo] at c
       have hjn : j < ops.size := by omega
       have hoj : (ops.toList.take m)[j]? = some ops[j] := by rw [List.getElem?_take, if_pos hj, Array.getElem?_toList]; exact Array.getElem?_eq_getElem hjn
       have hdj : ops[j].dst = some t := by simpa [dstOf, hjn] using ht
       rcases Nat.lt_or_ge j i with h | h
       exact (dst_get hdst i o t ho' c).2 j _ h hoj hdj
       exact (dst_get hdst j _ t hoj hdj).2 i _ (by omega) ho' c
     rw [look_push_ne hne]
     exact hu t ht
     intro t u hu hno
     have hne : dstOf ops i ≠ some t := hno i him (by
       have : i < listed.size := by omega
       simp [Array.getD, this])
     rw [look_push_ne hne]
     refine hk t u hu fun k hkn hkl => hno k hkn ?_
     by_cases e : i = k
     subst e; rw [h0] at hkl; cases hkl
     rw [getD_set_ne true e]; exact hkl
     intro k q hq hkl j hj
     by_cases e : i = k
     subst e
     rw [ho] at hq
     obtain rfl := Option.some.inj hq
     obtain ⟨h1, h2⟩ := hdeps j hj
     rw [getD_set_ne true (by omega)]
     exact h2
     rw [getD_set_ne true e] at hkl
     have := hc k q hq hkl j hj
     by_cases e2 : i = j
     subst e2; rw [h0] at this; cases this
     rw [getD_set_ne true e2]; exact this
     intro hlt
     rw [getD_set_ne true (by omega)]
     exact hlast hlt
   unfold wpOp
   simp only [ho]
   unfold wpList at hw
   split
   rename_i hwd
   rw [if_pos hwd] at hw
   rcases hw with hw | ⟨_, hlo⟩
   refine Or.inl ?_
   have h3 := Oper.wp_mono2 (K' := wpAny P .any ops Q fuel (listed.setIfInBounds i true)) (Q' := fun e a' w' => e = .normal) next (fun e a' w' h => h.1) hw
   have quiet : ∀ {K : Act → World → Prop}, o.wp P a w K (fun e _ _ => e = .normal) → o.wp P a w K Q := by
     intro K hh
     unfold Oper.wp at *
     generalize (execOp a.eval o).run P w = r at *
     cases r with
     | ok n w' =>
       cases n <;> simp only [Oper.upon] at hh ⊢ <;>
         first
           | exact hh
           | exact Calls.mono hh (fun e w'' he => by
               cases e with
               | returned v => exact he
               | panicked c => cases he
               | outgrown => obtain ⟨_, _, hx⟩ := he; cases hx)
     | halt x w' => cases x <;> simp only [Oper.upon] at hh ⊢ <;> first | (cases hh; done) | exact hh
   exact quiet h3
   obtain ⟨_, _, hx, _⟩ := hlo
   cases hx
   rename_i hwd
   rw [if_neg hwd] at hw
   exact next _ _ hw
   intro hfree t u hu
   refine hk t u hu fun k hkn hkl c => ?_
   have hkn' : k < ops.size := by omega
   have hok : (ops.toList.take m)[k]? = some ops[k] := by rw [List.getElem?_take, if_pos hkn, Array.getElem?_toList]; exact Array.getElem?_eq_getElem hkn'
   have hdk : ops[k].dst = some t := by simpa [dstOf, hkn'] using c
   rcases free_get hfree k _ t hok hdk (look_mem _ _ _ hu) with h1 | h1
   obtain rfl : k = i := by omega
   rw [h0] at hkl; cases hkl
   rw [Nat.zero_add] at h1
   have := hc k ops[k] (Array.getElem?_eq_getElem hkn') hkl i h1
   rw [h0] at this; cases this
   intro j hj
   obtain ⟨h1, h2⟩ := hdeps j hj
   exact hv j (by omega) h2
   have hi0 : m ≤ i := by omega
   have listedT : ∀ j, j < i → listed.getD j true = true := by
     intro j hj
     have ht := htail i hi0 o ho j hj
     have key : ∀ (f : Nat) (q : Oper), (∀ e ∈ q.after, Region.binds .any e = true → e.on < ops.size ∧ listed.getD e.on true = true) → depT ops f q j = true → listed.getD j true = true := by
       intro f
       induction f with
       | zero =>
         intro q hq hd
         unfold depT dep at hd
         obtain ⟨e, he, hb⟩ := List.any_eq_true.1 hd
         simp only [Bool.and_eq_true] at hb
         obtain rfl := Nat.eq_of_beq_eq_true hb.2
         exact (hq e (by simpa using he) hb.1).2
       | succ f ihf =>
         intro q hq hd
         unfold depT at hd
         simp only [Bool.or_eq_true] at hd
         rcases hd with hd | hd
         unfold dep at hd
         obtain ⟨e, he, hb⟩ := List.any_eq_true.1 hd
         simp only [Bool.and_eq_true] at hb
         obtain rfl := Nat.eq_of_beq_eq_true hb.2
         exact (hq e (by simpa using he) hb.1).2
         obtain ⟨e, he, hb⟩ := List.any_eq_true.1 hd
         simp only [Bool.and_eq_true] at hb
         obtain ⟨h1, h2⟩ := hq e (by simpa using he) hb.1
         cases hqe : ops[e.on]? with
         | none => rw [hqe] at hb; cases hb.2
         | some r =>
           rw [hqe] at hb
           refine ihf r (fun e' he' hb' => ?_) hb.2
           have h3 : dep r e'.on = true := by
             unfold dep
             exact List.any_eq_true.2 ⟨e', by simpa using he', by simp [hb']⟩
           have h4 := ord_get hord e.on r (by rw [Array.getElem?_toList]; exact hqe) e' he' hb'
           exact ⟨by omega, hc e.on r hqe h2 _ h3⟩
     refine key ops.size o (fun e he hb => ?_) ht
     have h3 : dep o e.on = true := by
       unfold dep
       exact List.any_eq_true.2 ⟨e, by simpa using he, by simp [hb]⟩
     obtain ⟨h1, h2⟩ := hdeps e.on h3
     exact ⟨by omega, h2⟩
   have him : i = m := by
     rcases Nat.lt_or_ge m i with h | h
     have h1 := listedT m h
     rw [hlast (by omega)] at h1
     cases h1
     omega
   subst him
   have hw := (fin L w hx.1 hl fun j hj => hv j hj (listedT j hj)).out a ha
   have hbeyond : ∀ k, i ≤ k → k < ops.size → listed.getD k true = false := by
     intro k hk1 hk2
     cases hb : listed.getD k true with
     | false => rfl
     | true =>
       exfalso
       rcases Nat.eq_or_lt_of_le hk1 with h | h
       subst h; rw [h0] at hb; cases hb
       have ht := htail k (by omega) ops[k] (Array.getElem?_eq_getElem hk2) i h
       have key : ∀ (f : Nat) (x : Nat) (q : Oper), ops[x]? = some q → listed.getD x true = true → depT ops f q i = true → listed.getD i true = true := by
         intro f
         induction f with
         | zero => intro x q hq hx hd; exact hc x q hq hx i hd
         | succ f ihf =>
           intro x q hq hx hd
           unfold depT at hd
           simp only [Bool.or_eq_true] at hd
           rcases hd with hd | hd
           exact hc x q hq hx i hd
           obtain ⟨e, he, hb⟩ := List.any_eq_true.1 hd
           simp only [Bool.and_eq_true] at hb
           cases hqe : ops[e.on]? with
           | none => rw [hqe] at hb; cases hb.2
           | some r =>
             rw [hqe] at hb
             have h3 : dep q e.on = true := by
               unfold dep
               exact List.any_eq_true.2 ⟨e, by simpa using he, by simp [hb.1]⟩
             exact ihf e.on r hqe (hc x q hq hx _ h3) hb.2
       have h1 := key ops.size k ops[k] (Array.getElem?_eq_getElem hk2) hb ht
       rw [h0] at h1; cases h1
   have tail := wpAny_tail (P := P) (Q := Q) hord htail (ops.size - i) i (Nat.le_refl _) rfl (by omega) (fuel + 1) listed a w hs (by
     have hle : ops.size - i ≤ (undone ops.size listed).length := by
       have : ((List.range ops.size).filter fun k => decide (i ≤ k)).length ≤ (undone ops.size listed).length := by
         unfold undone
         refine List.Sublist.length_le ?_
         have e : ((List.range ops.size).filter fun k => decide (i ≤ k)) = ((List.range ops.size).filter fun k => !listed.getD k true).filter fun k => decide (i ≤ k) := by
           rw [List.filter_filter]
           apply List.filter_congr
           intro k hk
           have hk' := List.mem_range.1 hk
           by_cases h : i ≤ k
           rw [hbeyond k h hk']; simp [h]
           simp [h]
         rw [e]
         exact List.filter_sublist
       have e2 : ((List.range ops.size).filter fun k => decide (i ≤ k)).length = ops.size - i := by
         obtain ⟨r, hr⟩ : ∃ r, ops.size = i + r := ⟨ops.size - i, by omega⟩
         rw [hr, List.range_add, List.filter_append]
         have h1 : (List.range i).filter (fun k => decide (i ≤ k)) = [] := by
           apply List.filter_eq_nil_iff.2
           intro k hk
           have := List.mem_range.1 hk
           simp; omega
         have h2 : ((List.range r).map (fun x => i + x)).filter (fun k => decide (i ≤ k)) = (List.range r).map (fun x => i + x) := by
           apply List.filter_eq_self.2
           intro k hk
           obtain ⟨x, _, rfl⟩ := List.mem_map.1 hk
           simp
         rw [h1, h2]; simp
       omega
     omega) listedT hbeyond hw
   exact tail.2 i hi
def depsT (ops : Array Oper) (o : Oper) : Nat → Bool
  | 0 => true
  | j + 1 => depT ops ops.size o j && depsT ops o j
theorem depsT_get {ops : Array Oper} {o : Oper} : ∀ {m : Nat}, depsT ops o m = true → ∀ j, j < m → depT ops ops.size o j = true := by
 intro m
 induction m with
 | zero => intro _ j hj; omega
 | succ m ih =>
   intro h j hj
   simp only [depsT, Bool.and_eq_true] at h
   by_cases e : j = m
   subst e; exact h.1
   exact ih h.2 j (by omega)
def tailB (ops : Array Oper) : Nat → List Oper → Bool
  | _, [] => true
  | i, o :: r => depsT ops o i && tailB ops (i + 1) r
theorem tailB_get {ops : Array Oper} : ∀ {os : List Oper} {b : Nat}, tailB ops b os = true → ∀ (i : Nat) (o : Oper), os[i]? = some o → depsT ops o (b + i) = true := by
 intro os
 induction os with
 | nil => intro b _ i o h; simp at h
 | cons q r ih =>
   intro b h i o ho
   simp only [tailB, Bool.and_eq_true] at h
   cases i with
   | zero => obtain rfl := Option.some.inj ho; exact h.1
   | succ i =>
     have := ih h.2 i o (by simpa using ho)
     rwa [show b + 1 + i = b + (i + 1) by omega] at this
def lastB (ops : Array Oper) (m : Nat) : Bool := Nat.ble m ops.size && tailB ops m (ops.toList.drop m)
theorem C.regionAnyF {id : Nat} {ops : Array Oper} (All : World → World → Prop) (Pre Post : Nat → World → World → Prop) (At' : ∀ a b c, All a b → All b c → All a c) (Ae : ∀ a b, Ext a b → All a b) (Gt : ∀ i a b c, Pre i a b → Pre i b c → Pre i a c) (Ge : ∀ i a b, Ext a b → Pre i a b) {l : Env} {w : World} (m : Nat) (Rs : List (Value → World → Prop)) (l0 l1 : Env) (hl : Sub (l1 ++ l0) l) (hl1 : Sub l1 (l1 ++ l0)) (hl0 : Sub l0 (l1 ++ l0)) (hm : P.follows .mixedOrders = true) (hord : ordB 0 ops.toList = true) (hlast : lastB ops m = true) (hdst : dstB (l0.map (·.1)) (ops.toList.take m) = true) (hst : StablesOK Post 0 Rs)
   (steps : StepsOK All Pre Post P N ops (ops.toList.take m) Rs l0 l1 w 0 (ops.toList.take m)) (fin : ∀ L w', All w w' → Sub l0 L → (∀ j, j < m → ∃ v, Val (dstOf ops j) L v ∧ Rel Rs j v w') → W P N ops Q (ops.toList.drop m) L w') :
   C P N (.region id ops true) Q l w := by
 unfold lastB at hlast
 simp only [Bool.and_eq_true] at hlast
 have hmle := Nat.le_of_ble_eq_true hlast.1
 have htail : ∀ i, m ≤ i → ∀ o, ops[i]? = some o → ∀ j, j < i → depT ops ops.size o j = true := by
   intro i hi o ho j hj
   have := tailB_get hlast.2 (i - m) o (by rw [List.getElem?_drop, show m + (i - m) = i by omega, Array.getElem?_toList]; exact ho)
   rw [show m + (i - m) = i by omega] at this
   exact depsT_get this j hj
 constructor
 intro a ha
 refine wp_region_any hm (wpAny_rel At' Gt m (l1 := l1) hord hmle htail hdst hst steps fin ops.size _ (l1 ++ l0) a _ (by simp) ?_ ?_ hl0 ?_ ?_ ?_ ?_ (ha.sub hl))
 unfold undone
 exact Nat.le_trans (List.length_filter_le _ _) (by simp)
 exact ⟨Ae _ _ ⟨rfl, rfl, rfl, Nat.le_refl _, fun _ _ _ => rfl⟩, fun q _ _ => Ge _ _ _ ⟨rfl, rfl, rfl, Nat.le_refl _, fun _ _ _ => rfl⟩⟩
 intro j hj h
 have hj' : j < ops.size := by omega
 simp [Array.getD, hj'] at h
 intro t u hu _
 exact hl1 t u hu
 intro k q hq h
 have hk : k < ops.size := (Array.getElem?_eq_some_iff.1 hq).1
 simp [Array.getD, hk] at h
 intro h
 simp [Array.getD, h]
theorem C.regionAnyG {id : Nat} (G : World → World → Prop) (Gt : ∀ a b c, G a b → G b c → G a c) (Ge : ∀ a b, Ext a b → G a b) {ops : Array Oper} {l : Env} {w : World} (m : Nat) (Rs : List (Value → World → Prop)) (l0 l1 : Env) (hl : Sub (l1 ++ l0) l) (hl1 : Sub l1 (l1 ++ l0)) (hl0 : Sub l0 (l1 ++ l0)) (hm : P.follows .mixedOrders = true) (hord : ordB 0 ops.toList = true) (hlast : lastB ops m = true) (hdst : dstB (l0.map (·.1)) (ops.toList.take m) = true) (hst : StablesOK (fun _ => G) 0 Rs)
   (steps : StepsOK G (fun _ => G) (fun _ => G) P N ops (ops.toList.take m) Rs l0 l1 w 0 (ops.toList.take m)) (fin : ∀ L w', G w w' → Sub l0 L → (∀ j, j < m → ∃ v, Val (dstOf ops j) L v ∧ Rel Rs j v w') → W P N ops Q (ops.toList.drop m) L w') :
   C P N (.region id ops true) Q l w :=
 C.regionAnyF G (fun _ => G) (fun _ => G) Gt Ge (fun _ => Gt) (fun _ => Ge) m Rs l0 l1 hl hl1 hl0 hm hord hlast hdst hst steps fin
theorem C.regionAny {id : Nat} {ops : Array Oper} {l : Env} {w : World} (m : Nat) (Rs : List (Value → World → Prop)) (l0 l1 : Env) (hl : Sub (l1 ++ l0) l) (hl1 : Sub l1 (l1 ++ l0)) (hl0 : Sub l0 (l1 ++ l0)) (hm : P.follows .mixedOrders = true) (hord : ordB 0 ops.toList = true) (hlast : lastB ops m = true) (hdst : dstB (l0.map (·.1)) (ops.toList.take m) = true) (hst : StablesOK (fun _ => Ext) 0 Rs)
   (steps : StepsOK Ext (fun _ => Ext) (fun _ => Ext) P N ops (ops.toList.take m) Rs l0 l1 w 0 (ops.toList.take m)) (fin : ∀ L w', Ext w w' → Sub l0 L → (∀ j, j < m → ∃ v, Val (dstOf ops j) L v ∧ Rel Rs j v w') → W P N ops Q (ops.toList.drop m) L w') :
   C P N (.region id ops true) Q l w :=
 C.regionAnyG Ext (fun _ _ _ h g => h.ext g) (fun _ _ h => h) m Rs l0 l1 hl hl1 hl0 hm hord hlast hdst hst steps fin
theorem W.step {All : World → World → Prop} {Pre Post : Nat → World → World → Prop} {k : Nat} {ops : Array Oper} {d : Option Nat} {R : Value → World → Prop} {os : List Oper} {L : Env} {w : World} (pre : Env) (h : Sub (pre ++ L) L) (next : W P N ops (StepPost All Pre Post ops k N d R (pre ++ L) w) os (pre ++ L) w) : W P N ops (StepPost All Pre Post ops k N d R L w) os L w := by
 constructor
 intro a ha
 have h1 := next.out a (ha.sub h)
 have mono : ∀ (os : List Oper) (a : Act) (w' : World), wpList P ops (StepPost All Pre Post ops k N d R (pre ++ L) w) os a w' → wpList P ops (StepPost All Pre Post ops k N d R L w) os a w' := by
   have hpost : ∀ e a w', StepPost All Pre Post ops k N d R (pre ++ L) w e a w' → StepPost All Pre Post ops k N d R L w e a w' := by
     rintro e a w' ⟨he, v, hA, hX, hR⟩
     refine ⟨he, v, hA.sub ?_, hX, hR⟩
     intro t u hu
     by_cases hc : d = some t
     subst hc
     have h1 := Val_push (some t) v (pre ++ L) t rfl
     have h2 := Val_push (some t) v L t rfl
     first | (rw [h1] at hu; rw [h2]; exact hu) | (rw [h2] at hu; rw [h1]; exact hu)
     rw [look_push_ne hc] at hu ⊢; exact Sub.back pre h t u hu
   intro os
   induction os with
   | nil => intro a w' h; exact hpost _ _ _ h
   | cons o r ih =>
     intro a w' h
     unfold wpList at h ⊢
     split
     rename_i hw
     rw [if_pos hw] at h
     rcases h with h | ⟨h1, x, y, h2⟩
     exact Or.inl (Oper.wp_mono2 (fun a w => ih a w) hpost h)
     exact Or.inr ⟨h1, x, y, hpost _ _ _ h2⟩
     rename_i hw
     rw [if_neg hw] at h
     exact ih _ _ h
 exact mono os a w h1
theorem At.stepF {All : World → World → Prop} {Pre Post : Nat → World → World → Prop} {ops : Array Oper} {k d : Nat} {v : Value} {R : Value → World → Prop} {E : Env} {w w' : World} (hX : Told All Pre Post ops k w w') (hR : R v w') : At P N (StepPost All Pre Post ops k N (some d) R E w) .normal ((d, v) :: E) w' := ⟨fun a ha => ⟨rfl, v, ha, hX, hR⟩⟩
theorem At.step {G : World → World → Prop} {ops : Array Oper} {k d : Nat} {v : Value} {R : Value → World → Prop} {E : Env} {w w' : World} (hX : G w w') (hR : R v w') : At P N (StepPost G (fun _ => G) (fun _ => G) ops k N (some d) R E w) .normal ((d, v) :: E) w' := At.stepF ⟨hX, fun _ _ => ⟨fun _ => hX, fun _ => hX⟩⟩ hR
end
def FamAll (B : Nat → Nat → Prop) : World → World → Prop := Chg (fun b => ∃ k, B k b)
def FamPre (ops : Array Oper) (B : Nat → Nat → Prop) (i : Nat) : World → World → Prop := Chg (fun b => ∃ k, k ≠ i ∧ dT ops k i = false ∧ B k b)
def FamPost (ops : Array Oper) (B : Nat → Nat → Prop) (i : Nat) : World → World → Prop := Chg (fun b => ∃ k, k ≠ i ∧ dT ops i k = false ∧ B k b)
theorem Fam.of {ops : Array Oper} {B : Nat → Nat → Prop} (k : Nat) {a b : World} (h : Chg (B k) a b) : Told (FamAll B) (FamPre ops B) (FamPost ops B) ops k a b :=
 ⟨h.mono fun q hq => ⟨k, hq⟩, fun i hi => ⟨fun hd => h.mono fun q hq => ⟨k, Ne.symm hi, hd, hq⟩, fun hd => h.mono fun q hq => ⟨k, Ne.symm hi, hd, hq⟩⟩⟩
theorem Fam.ofExt {ops : Array Oper} {B : Nat → Nat → Prop} {k : Nat} {a b : World} (h : Ext a b) : Told (FamAll B) (FamPre ops B) (FamPost ops B) ops k a b := Fam.of k (h.mono fun _ c => c.elim)
theorem FamPre.ext {ops : Array Oper} {B : Nat → Nat → Prop} {i : Nat} {a b : World} (h : FamPre ops B i a b) (hn : ∀ k q, k ≠ i → dT ops k i = false → B k q → False) : Ext a b := Chg.mono h fun q ⟨k, h1, h2, h3⟩ => hn k q h1 h2 h3
theorem FamPost.ext {ops : Array Oper} {B : Nat → Nat → Prop} {i : Nat} {a b : World} (h : FamPost ops B i a b) (hn : ∀ k q, k ≠ i → dT ops i k = false → B k q → False) : Ext a b := Chg.mono h fun q ⟨k, h1, h2, h3⟩ => hn k q h1 h2 h3
theorem dT_absurd {b : Bool} (h : b = false) (h' : b = true) : False := by rw [h] at h'; cases h'
theorem C.regionAnyB {P : Program} {N : Nat} {Q : Exit → Act → World → Prop} {id : Nat} (B : Nat → Nat → Prop) {ops : Array Oper} {l : Env} {w : World} (m : Nat) (Rs : List (Value → World → Prop)) (l0 l1 : Env) (hl : Sub (l1 ++ l0) l) (hl1 : Sub l1 (l1 ++ l0)) (hl0 : Sub l0 (l1 ++ l0)) (hm : P.follows .mixedOrders = true) (hord : ordB 0 ops.toList = true) (hlast : lastB ops m = true) (hdst : dstB (l0.map (·.1)) (ops.toList.take m) = true) (hst : StablesOK (FamPost ops B) 0 Rs)
   (steps : StepsOK (FamAll B) (FamPre ops B) (FamPost ops B) P N ops (ops.toList.take m) Rs l0 l1 w 0 (ops.toList.take m)) (fin : ∀ L w', FamAll B w w' → Sub l0 L → (∀ j, j < m → ∃ v, Val (dstOf ops j) L v ∧ Rel Rs j v w') → W P N ops Q (ops.toList.drop m) L w') :
   C P N (.region id ops true) Q l w :=
 C.regionAnyF (FamAll B) (FamPre ops B) (FamPost ops B) (fun _ _ _ h g => Chg.trans h g) (fun _ _ h => Chg.mono h fun _ c => c.elim) (fun _ _ _ _ h g => Chg.trans h g) (fun _ _ _ h => Chg.mono h fun _ c => c.elim) m Rs l0 l1 hl hl1 hl0 hm hord hlast hdst hst steps fin
def ChPre (S : Nat → Prop) (L0 L1 : World → Prop) (i1 i2 q : Nat) (a b : World) : Prop := Chg S a b ∧ (q = i1 → L0 a → L0 b) ∧ (q = i2 → (L0 a → L0 b ∨ L1 b) ∧ (L1 a → L1 b))
def ChPost (S : Nat → Prop) (L1 L2 : World → Prop) (i1 i2 q : Nat) (a b : World) : Prop := Chg S a b ∧ (q = i1 → L1 a ∨ L2 a → L1 b ∨ L2 b) ∧ (q = i2 → L2 a → L2 b)
theorem ChPre.trans {S : Nat → Prop} {L0 L1 : World → Prop} {i1 i2 q : Nat} {a b c : World} (h : ChPre S L0 L1 i1 i2 q a b) (g : ChPre S L0 L1 i1 i2 q b c) : ChPre S L0 L1 i1 i2 q a c :=
 ⟨h.1.trans g.1, fun e x => g.2.1 e (h.2.1 e x), fun e => ⟨fun x => ((h.2.2 e).1 x).elim (g.2.2 e).1 fun y => Or.inr ((g.2.2 e).2 y), fun x => (g.2.2 e).2 ((h.2.2 e).2 x)⟩⟩
theorem Chain.refl {S : Nat → Prop} {L0 L1 L2 : World → Prop} {i1 i2 k : Nat} {ops : Array Oper} (a : World) : Told (Chg S) (ChPre S L0 L1 i1 i2) (ChPost S L1 L2 i1 i2) ops k a a :=
 ⟨Chg.refl _ _, fun q _ => ⟨fun _ => ⟨Chg.refl _ _, fun _ x => x, fun _ => ⟨Or.inl, fun x => x⟩⟩, fun _ => ⟨Chg.refl _ _, fun _ x => x, fun _ x => x⟩⟩⟩
theorem Chain.ofExt {S : Nat → Prop} {L0 L1 L2 : World → Prop} {i1 i2 k : Nat} {ops : Array Oper} (e0 : ∀ a b, L0 a → Ext a b → L0 b) (e1 : ∀ a b, L1 a → Ext a b → L1 b) (e2 : ∀ a b, L2 a → Ext a b → L2 b) {a b : World} (h : Ext a b) : Told (Chg S) (ChPre S L0 L1 i1 i2) (ChPost S L1 L2 i1 i2) ops k a b :=
 ⟨h.mono fun _ c => c.elim, fun q _ => ⟨fun _ => ⟨h.mono fun _ c => c.elim, fun _ x => e0 _ _ x h, fun _ => ⟨fun x => Or.inl (e0 _ _ x h), fun x => e1 _ _ x h⟩⟩, fun _ => ⟨h.mono fun _ c => c.elim, fun _ x => x.imp (fun y => e1 _ _ y h) (fun y => e2 _ _ y h), fun _ x => e2 _ _ x h⟩⟩⟩
theorem Chain.one {S : Nat → Prop} {L0 L1 L2 : World → Prop} {i1 i2 : Nat} {ops : Array Oper} (hd : dT ops i2 i1 = true) {a b : World} (hc : Chg S a b) (h1 : L1 b) : Told (Chg S) (ChPre S L0 L1 i1 i2) (ChPost S L1 L2 i1 i2) ops i1 a b :=
 ⟨hc, fun q hq => ⟨fun _ => ⟨hc, fun e => absurd e hq, fun _ => ⟨fun _ => Or.inr h1, fun _ => h1⟩⟩, fun hn => ⟨hc, fun _ _ => Or.inl h1, fun e => by subst e; exact (dT_absurd hn hd).elim⟩⟩⟩
theorem Chain.two {S : Nat → Prop} {L0 L1 L2 : World → Prop} {i1 i2 : Nat} {ops : Array Oper} (hd : dT ops i2 i1 = true) {a b : World} (hc : Chg S a b) (h2 : L2 b) : Told (Chg S) (ChPre S L0 L1 i1 i2) (ChPost S L1 L2 i1 i2) ops i2 a b :=
 ⟨hc, fun q hq => ⟨fun hn => ⟨hc, fun e => by subst e; exact (dT_absurd hn hd).elim, fun e => absurd e hq⟩, fun _ => ⟨hc, fun _ _ => Or.inr h2, fun _ _ => h2⟩⟩⟩
theorem C.regionAnyC {P : Program} {N : Nat} {Q : Exit → Act → World → Prop} {id : Nat} (S : Nat → Prop) (L0 L1 L2 : World → Prop) (i1 i2 : Nat) (e0 : ∀ a b, L0 a → Ext a b → L0 b) (e1 : ∀ a b, L1 a → Ext a b → L1 b) {ops : Array Oper} {l : Env} {w : World} (m : Nat) (Rs : List (Value → World → Prop)) (l0 l1 : Env) (hl : Sub (l1 ++ l0) l) (hl1 : Sub l1 (l1 ++ l0)) (hl0 : Sub l0 (l1 ++ l0)) (hm : P.follows .mixedOrders = true) (hord : ordB 0 ops.toList = true) (hlast : lastB ops m = true) (hdst : dstB (l0.map (·.1)) (ops.toList.take m) = true) (hst : StablesOK (ChPost S L1 L2 i1 i2) 0 Rs)
   (steps : StepsOK (Chg S) (ChPre S L0 L1 i1 i2) (ChPost S L1 L2 i1 i2) P N ops (ops.toList.take m) Rs l0 l1 w 0 (ops.toList.take m)) (fin : ∀ L w', Chg S w w' → Sub l0 L → (∀ j, j < m → ∃ v, Val (dstOf ops j) L v ∧ Rel Rs j v w') → W P N ops Q (ops.toList.drop m) L w') :
   C P N (.region id ops true) Q l w :=
 C.regionAnyF (Chg S) (ChPre S L0 L1 i1 i2) (ChPost S L1 L2 i1 i2) (fun _ _ _ h g => Chg.trans h g) (fun _ _ h => Chg.mono h fun _ c => c.elim) (fun _ _ _ _ h g => ChPre.trans h g) (fun _ _ _ h => ⟨Chg.mono h fun _ c => c.elim, fun _ x => e0 _ _ x h, fun _ => ⟨fun x => Or.inl (e0 _ _ x h), fun x => e1 _ _ x h⟩⟩) m Rs l0 l1 hl hl1 hl0 hm hord hlast hdst hst steps fin
abbrev E_ (x : Value) : Value → World → Prop := fun v _ => v = x
theorem sN {G : Nat → World → World → Prop} {k : Nat} {x : Value} {Rs : List (Value → World → Prop)} (h : StablesOK G (k + 1) Rs) : StablesOK G k (E_ x :: Rs) := ⟨fun _ _ _ h _ => h, h⟩
theorem sM {G : Nat → World → World → Prop} {k : Nat} {R : Value → World → Prop} {Rs : List (Value → World → Prop)} (hs : Stable (G k) R) (h : StablesOK G (k + 1) Rs) : StablesOK G k (R :: Rs) := ⟨hs, h⟩
section
variable {P : Program} {N : Nat} {All : World → World → Prop} {Pre Post : Nat → World → World → Prop} {k : Nat} {ops : Array Oper} {D : Option Nat} {R : Value → World → Prop} {os : List Oper} {L : Env} {w : World}
theorem W.s1 {t : Nat} {v : Value} (h : look L t = some v) (next : W P N ops (StepPost All Pre Post ops k N D R ((t, v) :: L) w) os ((t, v) :: L) w) : W P N ops (StepPost All Pre Post ops k N D R L w) os L w := W.step [(t, v)] (Sub.cons h (Sub.refl _)) next
theorem W.s2 {t t' : Nat} {v v' : Value} (h : look L t = some v) (h' : look L t' = some v') (next : W P N ops (StepPost All Pre Post ops k N D R ((t, v) :: (t', v') :: L) w) os ((t, v) :: (t', v') :: L) w) : W P N ops (StepPost All Pre Post ops k N D R L w) os L w := W.step [(t, v), (t', v')] (Sub.cons h (Sub.cons h' (Sub.refl _))) next
theorem W.s3 {t t' t2 : Nat} {v v' v2 : Value} (h : look L t = some v) (h' : look L t' = some v') (h2 : look L t2 = some v2) (next : W P N ops (StepPost All Pre Post ops k N D R ((t, v) :: (t', v') :: (t2, v2) :: L) w) os ((t, v) :: (t', v') :: (t2, v2) :: L) w) : W P N ops (StepPost All Pre Post ops k N D R L w) os L w := W.step [(t, v), (t', v'), (t2, v2)] (Sub.cons h (Sub.cons h' (Sub.cons h2 (Sub.refl _)))) next
theorem W.e0 {d : Nat} {v : Value} (hR : R v w) : W P N ops (StepPost Ext (fun _ => Ext) (fun _ => Ext) ops k N (some d) R L w) [] ((d, v) :: L) w := W.nil (At.step (Ext.refl _) hR)
theorem W.e1 {d : Nat} {v : Value} {w' : World} (hX : Ext w w') (hR : R v w') : W P N ops (StepPost Ext (fun _ => Ext) (fun _ => Ext) ops k N (some d) R L w) [] ((d, v) :: L) w' := W.nil (At.step hX hR)
theorem W.eF {B : Nat → Nat → Prop} {d : Nat} {v : Value} (hR : R v w) : W P N ops (StepPost (FamAll B) (FamPre ops B) (FamPost ops B) ops k N (some d) R L w) [] ((d, v) :: L) w := W.nil (At.stepF (Fam.ofExt (Ext.refl _)) hR)
theorem mB {Rs : List (Value → World → Prop)} {l0 l1 : Env} {w0 : World} {t d : Nat} {v : Value} {ty : TypeId} {pos : String} {aft : Array Edge} (h : look l0 t = some v) (hd : dstOf ops k = some d) (hR : ∀ w, Rel Rs k v w) (hN : Nat.blt d N = true) : StepOK Ext (fun _ => Ext) (fun _ => Ext) P N ops os Rs l0 l1 w0 k ⟨some d, .move (.tmp t), ty, pos, aft, none⟩ :=
 fun L w _ hs _ _ => by rw [hd]; exact W.move (hs t v h) hN (W.e0 (hR w))
end
end Go.Proofs.YthiijdbiikljpaaGreat.KW
namespace Go.Proofs.YthiijdbiikljpaaGreat.Disk
open Go Go.RowKit Go.Proofs.YthiijdbiikljpaaGreat.KW Go.Proofs.YthiijdbiikljpaaGreat.Words
set_option linter.unusedVariables false
set_option linter.unusedSimpArgs false
set_option maxRecDepth 100000
abbrev Zs (w : World) (ao : Option Addr) (c : Nat) (xs : List Int) : Prop := Sl w ao xs.length c 1 (xs.map (.int .i64))
theorem z_oneCell (xs : List Int) : ∀ u ∈ (xs.map (.int .i64) : List Value), u.oneCell' = true := by
 intro u hu
 obtain ⟨_, _, rfl⟩ := List.mem_map.1 hu
 rfl
theorem cloneB_ok (ao : Option Addr) (c : Nat) (xs : List UInt8) (w : World) (hS : Bs w ao c xs) (hl : xs.length ≤ 1000000000000) :
   Ct Tryz.prog 54 #[.slice ao xs.length c] w (fun v w' => Ow w' w.heap.size 5 v xs ∧ Ext w w') := by
 refine Ct.enter [(0, .slice ao xs.length c)] Tryz.func54 rfl rfl rfl rfl ?_
 refine C.seq (C.region (W.assign rfl rfl (W.nil (At.thenCode (C.seq (C.seq (C.region (W.move rfl rfl ?_))))))))
 refine W.eqlNil Tryz.underlying22 rfl rfl rfl ?_
 refine W.nil (At.thenCode ?_)
 first | refine C.condD rfl (fun c4 => ?_) (fun c4 => ?_) | refine C.cond rfl (fun c4 => ?_) (fun c4 => ?_)
 obtain rfl : ao = none := by cases ao with
   | none => rfl
   | some a => cases c4
 have hc0 := hS.nil rfl
 have hle := hS.le
 obtain rfl : xs = [] := List.eq_nil_of_length_eq_zero (by omega)
 refine C.seq (C.region (W.assign rfl rfl (W.nil (At.thenCode (C.ret (At.thenRet ?_))))))
 refine At.ret1 Tryz.results54 rfl ?_
 first | exact ⟨ho7, hX7⟩ | exact ⟨Ow.nil _ _ _, Ext.refl _⟩
 refine C.skip (At.thenCode (C.seq (C.region ?_)))
 refine W.lit0 E8 Tryz.underlying22 rfl ?_
 intro g5 w5 hg5 hX5 ho5
 refine W.move rfl rfl ?_
 refine W.appendB (xs := []) E8 Tryz.underlying22 rfl rfl ho5 (hS.ext hX5) (by simp; omega) hX5.size rfl ?_
 rw [List.nil_append]
 intro v7 w7 ho7 hg7 _
 have hX7 : Ext w w7 := hX5.news (Chg.of_grown hg7) (fun k hk => Or.inr ((World.ownsRow.lt ho5 k hk.symm).1))
 refine W.assign rfl rfl (W.nil (At.thenCode (C.ret ?_)))
 refine At.ret1 Tryz.results54 rfl ?_
 exact ⟨ho7, hX7⟩
theorem cloneZ_ok (ao : Option Addr) (c : Nat) (xs : List Int) (w : World) (hS : Zs w ao c xs) (hl : xs.length ≤ 1000000000000) :
   Ct Tryz.prog 48 #[.slice ao xs.length c] w (fun v w' => w'.ownsRow w.heap.size 3 1 v xs.length (xs.map (.int .i64)) ∧ Ext w w') := by
 refine Ct.enter [(0, .slice ao xs.length c)] Tryz.func48 rfl rfl rfl rfl ?_
 refine C.seq (C.region (W.assign rfl rfl (W.nil (At.thenCode (C.seq (C.seq (C.region (W.move rfl rfl ?_))))))))
 refine W.eqlNil Tryz.underlying41 rfl rfl rfl ?_
 refine W.nil (At.thenCode ?_)
 first | refine C.condD rfl (fun c4 => ?_) (fun c4 => ?_) | refine C.cond rfl (fun c4 => ?_) (fun c4 => ?_)
 obtain rfl : ao = none := by cases ao with
   | none => rfl
   | some a => cases c4
 have hc0 := hS.nil rfl
 have hle := hS.le
 obtain rfl : xs = [] := List.eq_nil_of_length_eq_zero (by omega)
 refine C.seq (C.region (W.assign rfl rfl (W.nil (At.thenCode (C.ret (At.thenRet ?_))))))
 refine At.ret1 Tryz.results48 rfl ?_
 first | exact ⟨ho7, hX7⟩ | exact ⟨World.ownsRow_nil _ _ _ _, Ext.refl _⟩
 refine C.skip (At.thenCode (C.seq (C.region ?_)))
 refine W.lit0 XI Tryz.underlying41 rfl ?_
 intro g5 w5 hg5 hX5 ho5
 refine W.move rfl rfl ?_
 refine W.append (cs := []) XI Tryz.underlying41 rfl rfl ho5 (hS.ext hX5) (z_oneCell xs) (by omega) (by omega) hX5.size rfl ?_
 rw [List.nil_append, Nat.zero_add]
 intro v7 w7 ho7 hg7 _
 have hX7 : Ext w w7 := hX5.news (Chg.of_grown hg7) (fun k hk => Or.inr ((World.ownsRow.lt ho5 k hk.symm).1))
 refine W.assign rfl rfl (W.nil (At.thenCode (C.ret ?_)))
 refine At.ret1 Tryz.results48 rfl ?_
 exact ⟨ho7, hX7⟩
structure Dsk where
  room : Nat
  bs : List UInt8
  syn : Nat
  fails : List Int
def failB (D : Dsk) : Bool := match D.fails with
  | [] => false
  | x :: _ => decide (¬ x = 0)
def failD (D : Dsk) : Dsk := ⟨D.room, D.bs, D.syn, D.fails.tail⟩
def Full (D : Dsk) (n : Nat) : Prop := D.room < D.bs.length + n
instance (D : Dsk) (n : Nat) : Decidable (Full D n) := by unfold Full; infer_instance
def appE (D : Dsk) (b : List UInt8) : Nat := if failB D = true ∨ Full D b.length then 7 else 0
def appD (D : Dsk) (b : List UInt8) : Dsk := ⟨D.room, if failB D = true ∨ Full D b.length then D.bs else D.bs ++ b, D.syn, D.fails.tail⟩
def synE (D : Dsk) : Nat := if failB D = true then 7 else 0
def synD (D : Dsk) : Dsk := ⟨D.room, D.bs, if failB D = true then D.syn else D.bs.length, D.fails.tail⟩
def CutBad (D : Dsk) (n : Int) : Prop := n < 0 ∨ (D.bs.length : Int) < n
instance (D : Dsk) (n : Int) : Decidable (CutBad D n) := by unfold CutBad; infer_instance
def cutE (D : Dsk) (n : Int) : Nat := if failB D = true then 7 else if CutBad D n then 1 else 0
def cutD (D : Dsk) (n : Int) : Dsk := ⟨D.room, if failB D = true ∨ CutBad D n then D.bs else D.bs.take n.toNat, if failB D = true ∨ CutBad D n then D.syn else n.toNat, D.fails.tail⟩
def keepN (D : Dsk) (keep : Int) : Nat := D.syn + (min (max 0 keep) ((D.bs.length - D.syn : Nat) : Int)).toNat
def crashD (D : Dsk) (keep : Int) : Dsk := ⟨D.room, D.bs.take (keepN D keep), keepN D keep, D.fails⟩
def setFails (D : Dsk) (l : List Int) : Dsk := ⟨D.room, D.bs, D.syn, l⟩
structure Dsk.Ok (D : Dsk) : Prop where
  fits : D.bs.length ≤ D.room
  syn : D.syn ≤ D.bs.length
  small : D.bs.length ≤ 100000000000
  few : D.fails.length ≤ 100000000000
theorem keepN_le {D : Dsk} (h : D.Ok) (keep : Int) : D.syn ≤ keepN D keep ∧ keepN D keep ≤ D.bs.length := by
 have := h.syn
 unfold keepN
 omega
theorem failD_ok {D : Dsk} (h : D.Ok) : (failD D).Ok := ⟨h.fits, h.syn, h.small, by have := h.few; simp [failD]; omega⟩
theorem appD_ok {D : Dsk} (h : D.Ok) {b : List UInt8} (hb : D.bs.length + b.length ≤ 100000000000) : (appD D b).Ok := by
 have h1 := h.fits
 have h2 := h.syn
 have h3 := h.few
 refine ⟨?_, ?_, ?_, by simp [appD]; omega⟩
 unfold appD
 show List.length _ ≤ D.room
 split
 exact h1
 rename_i hn
 rw [List.length_append]
 have : ¬ Full D b.length := fun c => hn (.inr c)
 unfold Full at this
 omega
 unfold appD
 show D.syn ≤ List.length _
 split
 exact h2
 rw [List.length_append]; omega
 unfold appD
 show List.length _ ≤ _
 split
 exact h.small
 rw [List.length_append]; omega
theorem synD_ok {D : Dsk} (h : D.Ok) : (synD D).Ok := by
 refine ⟨h.fits, ?_, h.small, by have := h.few; simp [synD]; omega⟩
 unfold synD
 show (if failB D = true then D.syn else D.bs.length) ≤ D.bs.length
 split
 exact h.syn
 exact Nat.le_refl _
theorem cutD_ok {D : Dsk} (h : D.Ok) (n : Int) : (cutD D n).Ok := by
 have h1 := h.fits
 have h2 := h.syn
 have h3 := h.small
 refine ⟨?_, ?_, ?_, by have := h.few; simp [cutD]; omega⟩
 unfold cutD
 show List.length _ ≤ D.room
 split
 exact h1
 rw [List.length_take]; omega
 unfold cutD
 show (if failB D = true ∨ CutBad D n then D.syn else n.toNat) ≤ List.length (if failB D = true ∨ CutBad D n then D.bs else D.bs.take n.toNat)
 split
 exact h2
 rename_i hn
 have : ¬ CutBad D n := fun c => hn (.inr c)
 unfold CutBad at this
 rw [List.length_take]; omega
 unfold cutD
 show List.length _ ≤ _
 split
 exact h3
 rw [List.length_take]; omega
theorem crashD_ok {D : Dsk} (h : D.Ok) (keep : Int) : (crashD D keep).Ok := by
 have h1 := h.fits
 have h3 := h.small
 obtain ⟨h4, h5⟩ := keepN_le h keep
 refine ⟨?_, ?_, ?_, h.few⟩
 show (D.bs.take (keepN D keep)).length ≤ D.room
 rw [List.length_take]; omega
 show keepN D keep ≤ (D.bs.take (keepN D keep)).length
 rw [List.length_take]; omega
 show (D.bs.take (keepN D keep)).length ≤ _
 rw [List.length_take]; omega
theorem setFails_ok {D : Dsk} (h : D.Ok) {l : List Int} (hl : l.length ≤ 100000000000) : (setFails D l).Ok := ⟨h.fits, h.syn, h.small, hl⟩
structure Dk (w : World) (F : Nat → Prop) (g : Nat) (rv : Int) (D : Dsk) : Prop where
  out : ∃ bo cb fo cf, Bk w g [.int .i64 rv, .slice bo D.bs.length cb, .int .i64 (D.syn : Int), .slice fo D.fails.length cf] ∧ Ow w 0 5 (.slice bo D.bs.length cb) D.bs ∧ Zs w fo cf D.fails ∧
    (∀ ad, bo = some ad → F ad.block ∧ ad.block ≠ g) ∧ (∀ ad, fo = some ad → D.fails ≠ [] → F ad.block ∧ ad.block ≠ g ∧ ∀ ad', bo = some ad' → ad.block ≠ ad'.block)
  own : F g
  lt : ∀ k, F k → k < w.heap.size
  ok : D.Ok
  room : max 0 rv = (D.room : Int)
  rvb : -9223372036854775808 ≤ rv ∧ rv ≤ 9223372036854775807
theorem Dk.chg {S F : Nat → Prop} {w w' : World} {g : Nat} {rv : Int} {D : Dsk} (h : Dk w F g rv D) (c : Chg S w w') (hd : ∀ k, F k → ¬ S k) : Dk w' F g rv D := by
 obtain ⟨bo, cb, fo, cf, h1, h2, h3, h4, h5⟩ := h.out
 refine ⟨⟨bo, cb, fo, cf, h1.chg c (hd _ h.own), ownsRow_chg h2 c (fun k hk => ?_), Sl.chg h3 c (fun ad e hne => ?_), h4, h5⟩, h.own, fun k hk => Nat.lt_of_lt_of_le (h.lt k hk) c.size, h.ok, h.room, h.rvb⟩
 cases bo with
 | none => cases hk
 | some ad => obtain rfl := Option.some.inj hk; exact hd _ (h4 ad rfl).1
 exact hd _ (h5 ad e (fun c => hne (by rw [c]; rfl))).1
theorem Dk.ext {F : Nat → Prop} {w w' : World} {g : Nat} {rv : Int} {D : Dsk} (h : Dk w F g rv D) (c : Ext w w') : Dk w' F g rv D := h.chg c fun _ _ x => x
def Grown (F : Nat → Prop) (w w' : World) : Nat → Prop := fun k => F k ∨ (w.heap.size ≤ k ∧ k < w'.heap.size)
theorem Dk.grow {F F' : Nat → Prop} {w : World} {g : Nat} {rv : Int} {D : Dsk} (h : Dk w F g rv D) (hF : ∀ k, F k → F' k) (hl : ∀ k, F' k → k < w.heap.size) : Dk w F' g rv D := by
 obtain ⟨bo, cb, fo, cf, h1, h2, h3, h4, h5⟩ := h.out
 exact ⟨⟨bo, cb, fo, cf, h1, h2, h3, fun ad e => ⟨hF _ (h4 ad e).1, (h4 ad e).2⟩, fun ad e hne => ⟨hF _ (h5 ad e hne).1, (h5 ad e hne).2⟩⟩, hF _ h.own, hl, h.ok, h.room, h.rvb⟩
theorem Grown.lt {F : Nat → Prop} {w w' : World} (hF : ∀ k, F k → k < w.heap.size) (hs : w.heap.size ≤ w'.heap.size) : ∀ k, Grown F w w' k → k < w'.heap.size := fun k hk => by
 rcases hk with hk | hk
 have := hF k hk; omega
 exact hk.2
theorem slice_own {bo : Option Addr} {n c k : Nat} (h : (Value.slice bo n c).ownBlock = some k) : ∃ ad, bo = some ad ∧ ad.block = k := by
 cases bo with
 | none => cases h
 | some ad => exact ⟨ad, rfl, Option.some.inj h⟩
theorem New_ok (room : Int) (w : World) (hr : -9223372036854775808 ≤ room ∧ room ≤ 9223372036854775807) : Ct Tryz.prog 5 #[.int .i64 room] w (fun v w' => ∃ g, v = .pointer (some ⟨g, 0, none⟩) ∧ Dk w' (Grown (fun _ => False) w w') g (max 0 room) ⟨room.toNat, [], 0, []⟩ ∧ Ext w w') := by
 refine Ct.enter [(0, .int .i64 room)] Tryz.func5 rfl rfl rfl rfl ?_
 refine C.seq (C.region (W.assign rfl rfl (W.nil (At.thenCode (C.seq (C.region (W.move rfl rfl ?_)))))))
 refine W.maxI rfl rfl rfl ?_
 refine W.buildS [(0, 1), (1, 1), (2, 1), (3, 1)] [.int .i64 (max 0 room), .slice none 0 0, .int .i64 0, .slice none 0 0] [(.int .i64 0), (.slice none 0 0), (.int .i64 0), (.slice none 0 0)] Tryz.underlying62 (by kernel_rfl) (by kernel_rfl) rfl rfl rfl ?_
 refine W.box [.int .i64 (max 0 room), .slice none 0 0, .int .i64 0, .slice none 0 0] rfl rfl rfl ?_
 intro g w2 hg hX hB
 have hl := hB.lt
 refine W.assign rfl rfl (W.nil (At.thenCode (C.ret ?_)))
 refine At.ret1 Tryz.results5 rfl ?_
 exact ⟨g, rfl, ⟨⟨none, 0, none, 0, hB, Ow.nil _ _ _, Sl.none _ 1, fun ad e => (by cases e), fun ad e => (by cases e)⟩, .inr ⟨by omega, hl⟩, fun k hk => hk.elim False.elim And.right, ⟨Nat.zero_le _, Nat.zero_le _, Nat.zero_le _, Nat.zero_le _⟩, by show max 0 _ = ((room.toNat : Nat) : Int); omega, by omega⟩, hX⟩
theorem failing_ok (F : Nat → Prop) (g : Nat) (rv : Int) (D : Dsk) (w : World) (hD : Dk w F g rv D) : Ct Tryz.prog 26 #[.pointer (some ⟨g, 0, none⟩)] w (fun v w' => v = .bool (failB D) ∧ Dk w' F g rv (failD D) ∧ Chg (fun k => k = g) w w') := by
 obtain ⟨bo, cb, fo, cf, h1, h2, h3, h4, h5⟩ := hD.out
 have hfew := hD.ok.few
 refine Ct.enter [(0, .pointer (some ⟨g, 0, none⟩))] Tryz.func26 rfl rfl rfl rfl ?_
 refine C.seq (C.region (W.assign rfl rfl (W.nil (At.thenCode (C.seq (C.seq (C.region (W.move rfl rfl (W.nilCheck rfl rfl (W.fieldB (off := 3) (size := 1) (t := 41) (Fld.of (by kernel_rfl)) rfl rfl rfl ?_))))))))))
 refine W.loadB rfl Tryz.underlying41 rfl (by assumption) rfl rfl ?_
 refine W.lenS rfl Tryz.underlying41 rfl (W.eqlI rfl rfl rfl (W.nil (At.thenCode ?_)))
 refine C.condD rfl (fun c9 => ?_) (fun c9 => ?_)
 refine C.seq (C.region (W.assign rfl rfl (W.nil (At.thenCode (C.ret (At.thenRet ?_))))))
 refine At.ret1 Tryz.results26 rfl ?_
 have hnil : D.fails = [] := List.eq_nil_of_length_eq_zero (by omega)
 refine ⟨by unfold failB; rw [hnil], ?_, Chg.refl _ _⟩
 have e : failD D = D := by unfold failD; rw [hnil, List.tail_nil, ← hnil]
 rw [e]; exact hD
 have hpos : 0 < D.fails.length := by omega
 obtain ⟨x, r, hxr⟩ : ∃ x r, D.fails = x :: r := List.exists_cons_of_ne_nil (by intro h; rw [h] at hpos; simp at hpos)
 refine C.skip (At.thenCode (C.seq (C.region (W.move rfl rfl (W.nilCheck rfl rfl (W.fieldB (off := 3) (size := 1) (t := 41) (Fld.of (by kernel_rfl)) rfl rfl rfl ?_))))))
 refine W.loadB rfl Tryz.underlying41 rfl (by assumption) rfl rfl ?_
 refine W.indexS (i := 0) XI Tryz.underlying41 rfl h3 rfl ⟨by omega, by omega⟩ rfl ?_
 intro ad14 _ _ hc14
 refine W.load (v := .int .i64 x) rfl Tryz.underlying3 rfl (by have h := hc14 0 (.int .i64 x) (by rw [hxr]; rfl); rwa [add_zero'] at h) rfl ?_
 refine W.assign rfl rfl (W.nil (At.thenCode (C.seq (C.region (W.move rfl rfl (W.move rfl rfl (W.nilCheck rfl rfl (W.fieldB (off := 3) (size := 1) (t := 41) (Fld.of (by kernel_rfl)) rfl rfl rfl ?_))))))))
 refine W.loadB rfl Tryz.underlying41 rfl (by assumption) rfl rfl ?_
 refine W.slice (lo := 1) (hi := D.fails.length) XI Tryz.underlying41 rfl h3 (.inr ⟨_, .i64, rfl, rfl⟩) (.inl ⟨rfl, rfl⟩) (by omega) (Nat.le_refl _) rfl ?_
 intro ao21 c21 hS21 hb21
 have htl : D.fails.tail.length = D.fails.length - 1 := List.length_tail
 refine W.nilCheck rfl rfl (W.fieldB (off := 3) (size := 1) (t := 41) (Fld.of (by kernel_rfl)) rfl rfl rfl ?_)
 refine W.store1 rfl rfl rfl h1 (by simp) (by kernel_rfl) ?_
 intro w2 hc2 hB2
 have hB2 : Bk w2 g [.int .i64 rv, .slice bo D.bs.length cb, .int .i64 (D.syn : Int), .slice ao21 (D.fails.length - 1) c21] := hB2
 refine W.nil (At.thenCode (C.seq (C.region (W.move rfl rfl (W.neqI rfl rfl rfl (W.assign rfl rfl (W.nil (At.thenCode (C.ret ?_)))))))))
 refine At.ret1 Tryz.results26 rfl ?_
 have hS2 : Zs w ao21 c21 D.fails.tail := by
   show Sl _ _ _ _ _ _
   rw [htl]
   have e : (D.fails.tail.map (.int .i64) : List Value) = ((D.fails.map (.int .i64)).drop (1 * 1)).take ((D.fails.length - 1) * 1) := by
     rw [List.take_of_length_le (by rw [List.length_drop, List.length_map]; omega), Nat.mul_one, List.drop_one, List.map_tail]
   rw [e]; exact hS21
 have hfo : ∀ ad, ao21 = some ad → D.fails.tail ≠ [] → F ad.block ∧ ad.block ≠ g ∧ ∀ ad', bo = some ad' → ad.block ≠ ad'.block := fun ad e _ => by
   obtain ⟨a, ha, hb⟩ := hb21 ad e
   rw [hb]; exact h5 a ha (by rw [hxr]; simp)
 refine ⟨?_, ⟨⟨bo, cb, ao21, c21, by rw [← htl] at hB2; exact hB2, ownsRow_chg h2 hc2 (fun k hk e => ?_), Sl.chg hS2 hc2 (fun ad e hne hk => (hfo ad e (fun h => hne (by show List.map _ D.fails.tail = []; rw [h]; rfl))).2.1 hk), h4, hfo⟩, hD.own, fun k hk => by have := hD.lt k hk; have := hc2.size; omega, failD_ok hD.ok, hD.room, hD.rvb⟩, hc2⟩
 unfold failB; rw [hxr]
 obtain ⟨ad, e1, e2⟩ := slice_own hk
 exact (h4 ad e1).2 (e2.trans e)
theorem RNew_ok (room : Int) (w : World) (hr : -9223372036854775808 ≤ room ∧ room ≤ 9223372036854775807) : Ct Tryz.prog 6 #[.int .i64 room] w (fun v w' => ∃ g, v = .pointer (some ⟨g, 0, none⟩) ∧ Dk w' (Grown (fun _ => False) w w') g room ⟨room.toNat, [], 0, []⟩ ∧ Ext w w') := by
 refine Ct.enter [(0, .int .i64 room)] Tryz.func6 rfl rfl rfl rfl ?_
 refine C.seq (C.region (W.assign rfl rfl (W.nil (At.thenCode (C.seq (C.region (W.move rfl rfl ?_)))))))
 refine W.buildS [(0, 1), (1, 1), (2, 1), (3, 1)] [.int .i64 room, .slice none 0 0, .int .i64 0, .slice none 0 0] [(.int .i64 0), (.slice none 0 0), (.int .i64 0), (.slice none 0 0)] Tryz.underlying64 (by kernel_rfl) (by kernel_rfl) rfl rfl rfl ?_
 refine W.box [.int .i64 room, .slice none 0 0, .int .i64 0, .slice none 0 0] rfl rfl rfl ?_
 intro g w2 hg hX hB
 have hl := hB.lt
 refine W.assign rfl rfl (W.nil (At.thenCode (C.ret ?_)))
 refine At.ret1 Tryz.results6 rfl ?_
 exact ⟨g, rfl, ⟨⟨none, 0, none, 0, hB, Ow.nil _ _ _, Sl.none _ 1, fun ad e => (by cases e), fun ad e => (by cases e)⟩, .inr ⟨by omega, hl⟩, fun k hk => hk.elim False.elim And.right, ⟨Nat.zero_le _, Nat.zero_le _, Nat.zero_le _, Nat.zero_le _⟩, by show max 0 _ = ((room.toNat : Nat) : Int); omega, by omega⟩, hX⟩
theorem Rfailing_ok (F : Nat → Prop) (g : Nat) (rv : Int) (D : Dsk) (w : World) (hD : Dk w F g rv D) : Ct Tryz.prog 27 #[.pointer (some ⟨g, 0, none⟩)] w (fun v w' => v = .bool (failB D) ∧ Dk w' F g rv (failD D) ∧ Chg (fun k => k = g) w w') := by
 obtain ⟨bo, cb, fo, cf, h1, h2, h3, h4, h5⟩ := hD.out
 have hfew := hD.ok.few
 refine Ct.enter [(0, .pointer (some ⟨g, 0, none⟩))] Tryz.func27 rfl rfl rfl rfl ?_
 refine C.seq (C.region (W.assign rfl rfl (W.nil (At.thenCode (C.seq (C.seq (C.region (W.move rfl rfl (W.nilCheck rfl rfl (W.fieldB (off := 3) (size := 1) (t := 41) (Fld.of (by kernel_rfl)) rfl rfl rfl ?_))))))))))
 refine W.loadB rfl Tryz.underlying41 rfl (by assumption) rfl rfl ?_
 refine W.lenS rfl Tryz.underlying41 rfl (W.eqlI rfl rfl rfl (W.nil (At.thenCode ?_)))
 refine C.condD rfl (fun c9 => ?_) (fun c9 => ?_)
 refine C.seq (C.region (W.assign rfl rfl (W.nil (At.thenCode (C.ret (At.thenRet ?_))))))
 refine At.ret1 Tryz.results27 rfl ?_
 have hnil : D.fails = [] := List.eq_nil_of_length_eq_zero (by omega)
 refine ⟨by unfold failB; rw [hnil], ?_, Chg.refl _ _⟩
 have e : failD D = D := by unfold failD; rw [hnil, List.tail_nil, ← hnil]
 rw [e]; exact hD
 have hpos : 0 < D.fails.length := by omega
 obtain ⟨x, r, hxr⟩ : ∃ x r, D.fails = x :: r := List.exists_cons_of_ne_nil (by intro h; rw [h] at hpos; simp at hpos)
 refine C.skip (At.thenCode (C.seq (C.region (W.move rfl rfl (W.nilCheck rfl rfl (W.fieldB (off := 3) (size := 1) (t := 41) (Fld.of (by kernel_rfl)) rfl rfl rfl ?_))))))
 refine W.loadB rfl Tryz.underlying41 rfl (by assumption) rfl rfl ?_
 refine W.indexS (i := 0) XI Tryz.underlying41 rfl h3 rfl ⟨by omega, by omega⟩ rfl ?_
 intro ad14 _ _ hc14
 refine W.load (v := .int .i64 x) rfl Tryz.underlying3 rfl (by have h := hc14 0 (.int .i64 x) (by rw [hxr]; rfl); rwa [add_zero'] at h) rfl ?_
 refine W.assign rfl rfl (W.nil (At.thenCode (C.seq (C.region (W.move rfl rfl (W.move rfl rfl (W.nilCheck rfl rfl (W.fieldB (off := 3) (size := 1) (t := 41) (Fld.of (by kernel_rfl)) rfl rfl rfl ?_))))))))
 refine W.loadB rfl Tryz.underlying41 rfl (by assumption) rfl rfl ?_
 refine W.slice (lo := 1) (hi := D.fails.length) XI Tryz.underlying41 rfl h3 (.inr ⟨_, .i64, rfl, rfl⟩) (.inl ⟨rfl, rfl⟩) (by omega) (Nat.le_refl _) rfl ?_
 intro ao21 c21 hS21 hb21
 have htl : D.fails.tail.length = D.fails.length - 1 := List.length_tail
 refine W.nilCheck rfl rfl (W.fieldB (off := 3) (size := 1) (t := 41) (Fld.of (by kernel_rfl)) rfl rfl rfl ?_)
 refine W.store1 rfl rfl rfl h1 (by simp) (by kernel_rfl) ?_
 intro w2 hc2 hB2
 have hB2 : Bk w2 g [.int .i64 rv, .slice bo D.bs.length cb, .int .i64 (D.syn : Int), .slice ao21 (D.fails.length - 1) c21] := hB2
 refine W.nil (At.thenCode (C.seq (C.region (W.move rfl rfl (W.neqI rfl rfl rfl (W.assign rfl rfl (W.nil (At.thenCode (C.ret ?_)))))))))
 refine At.ret1 Tryz.results27 rfl ?_
 have hS2 : Zs w ao21 c21 D.fails.tail := by
   show Sl _ _ _ _ _ _
   rw [htl]
   have e : (D.fails.tail.map (.int .i64) : List Value) = ((D.fails.map (.int .i64)).drop (1 * 1)).take ((D.fails.length - 1) * 1) := by
     rw [List.take_of_length_le (by rw [List.length_drop, List.length_map]; omega), Nat.mul_one, List.drop_one, List.map_tail]
   rw [e]; exact hS21
 have hfo : ∀ ad, ao21 = some ad → D.fails.tail ≠ [] → F ad.block ∧ ad.block ≠ g ∧ ∀ ad', bo = some ad' → ad.block ≠ ad'.block := fun ad e _ => by
   obtain ⟨a, ha, hb⟩ := hb21 ad e
   rw [hb]; exact h5 a ha (by rw [hxr]; simp)
 refine ⟨?_, ⟨⟨bo, cb, ao21, c21, by rw [← htl] at hB2; exact hB2, ownsRow_chg h2 hc2 (fun k hk e => ?_), Sl.chg hS2 hc2 (fun ad e hne hk => (hfo ad e (fun h => hne (by show List.map _ D.fails.tail = []; rw [h]; rfl))).2.1 hk), h4, hfo⟩, hD.own, fun k hk => by have := hD.lt k hk; have := hc2.size; omega, failD_ok hD.ok, hD.room, hD.rvb⟩, hc2⟩
 unfold failB; rw [hxr]
 obtain ⟨ad, e1, e2⟩ := slice_own hk
 exact (h4 ad e1).2 (e2.trans e)
theorem Dk.rebuild {F : Nat → Prop} {w0 w1 w2 : World} {g : Nat} {rv : Int} {D : Dsk} {bo fo : Option Addr} {cb cf : Nat} (own : F g) (lt : ∀ k, F k → k < w0.heap.size) (hs : w0.heap.size ≤ w1.heap.size)
   (hB : Bk w2 g [.int .i64 rv, .slice bo D.bs.length cb, .int .i64 (D.syn : Int), .slice fo D.fails.length cf]) (hO : Ow w1 0 5 (.slice bo D.bs.length cb) D.bs) (hZ : Zs w1 fo cf D.fails) (hc : Chg (fun k => k = g) w1 w2)
   (h4 : ∀ ad, bo = some ad → Grown F w0 w1 ad.block ∧ ad.block ≠ g) (h5 : ∀ ad, fo = some ad → D.fails ≠ [] → Grown F w0 w1 ad.block ∧ ad.block ≠ g ∧ ∀ ad', bo = some ad' → ad.block ≠ ad'.block) (ok : D.Ok) (room : max 0 rv = (D.room : Int)) (rvb : -9223372036854775808 ≤ rv ∧ rv ≤ 9223372036854775807) :
   Dk w2 (Grown F w0 w2) g rv D := by
 have hs2 := hc.size
 have up : ∀ k, Grown F w0 w1 k → Grown F w0 w2 k := fun k hk => hk.imp id fun h => ⟨h.1, by omega⟩
 refine ⟨⟨bo, cb, fo, cf, hB, ownsRow_chg hO hc (fun k hk e => ?_), Sl.chg hZ hc (fun ad e hne hk => (h5 ad e (fun h => hne (by rw [h]; rfl))).2.1 hk), fun ad e => ⟨up _ (h4 ad e).1, (h4 ad e).2⟩, fun ad e hne => ⟨up _ (h5 ad e hne).1, (h5 ad e hne).2⟩⟩, .inl own, Grown.lt lt (by omega), ok, room, rvb⟩
 obtain ⟨ad, e1, e2⟩ := slice_own hk
 exact (h4 ad e1).2 (e2.trans e)
theorem ow_lt {w : World} {base e n c : Nat} {bo : Option Addr} {xs : List UInt8} (h : Ow w base e (.slice bo n c) xs) : ∀ ad, bo = some ad → ad.block < w.heap.size := fun ad e => by
 have := (World.ownsRow.lt h ad.block (by rw [e]; rfl)).2
 exact this
theorem ow_take {w : World} {base e c n : Nat} {bo : Option Addr} {xs : List UInt8} (h : Ow w base e (.slice bo xs.length c) xs) (hn : n ≤ xs.length) (h0 : bo = none → c = 0) : ∃ bo', (.slice (if c = 0 then bo else bo.map (·.add (0 * 1))) (n - 0) (c - 0) : Value) = .slice bo' (xs.take n).length c ∧ Ow w base e (.slice bo' (xs.take n).length c) (xs.take n) ∧ (∀ ad, bo' = some ad → ∃ a, bo = some a ∧ ad.block = a.block) := by
 have hl : (xs.take n).length = n := by rw [List.length_take]; omega
 rw [hl]
 rcases h.2 with ⟨h1, h2⟩ | ⟨g, cap, cur, hv, hb, hg, hnc, hcm, hcs, htake⟩
 injection h1 with h3 h4 h5
 subst h3; subst h5
 have hn0 : n = 0 := by omega
 subst hn0
 refine ⟨none, by simp, ?_, fun ad e => by cases e⟩
 have e : xs.take 0 = [] := rfl
 rw [e]
 exact Ow.nil _ _ _
 injection hv with h3 h4 h5
 subst h3; subst h5
 refine ⟨some ⟨g, 0, none⟩, ?_, ⟨by rw [List.length_map, hl, Nat.mul_one], .inr ⟨g, c, cur, by rw [hl], hb, hg, by omega, hcm, hcs, ?_⟩⟩, fun ad e => ⟨_, rfl, by obtain rfl := Option.some.inj e; rfl⟩⟩
 simp [add_mk]
 rw [hl, Nat.mul_one, List.map_take, ← htake, Nat.mul_one, List.take_take]
 congr 1
 omega
theorem Sync_ok (F : Nat → Prop) (g : Nat) (rv : Int) (D : Dsk) (w : World) (hD : Dk w F g rv D) : Ct Tryz.prog 73 #[.pointer (some ⟨g, 0, none⟩)] w (fun v w' => v = .int .i64 (synE D : Int) ∧ Dk w' F g rv (synD D) ∧ Chg F w w') := by
 refine Ct.enter [(0, .pointer (some ⟨g, 0, none⟩))] Tryz.func73 rfl rfl rfl rfl ?_
 refine C.seq (C.region (W.assign rfl rfl (W.nil (At.thenCode (C.seq (C.seq (C.region (W.move rfl rfl ?_))))))))
 refine W.call Tryz.call26 rfl (Disk.failing_ok F g rv D _ hD) rfl ?_
 rintro v4 w4 ⟨rfl, hD1, hc4⟩
 obtain ⟨bo, cb, fo, cf, h1, h2, h3, h4, h5⟩ := hD1.out
 have hcF : Chg F w w4 := hc4.mono fun k hk => by rw [hk]; exact hD.own
 refine W.nil (At.thenCode ?_)
 first | refine C.condD rfl (fun c4 => ?_) (fun c4 => ?_) | refine C.cond rfl (fun c4 => ?_) (fun c4 => ?_)
 refine C.seq (C.region (W.assign rfl rfl (W.nil (At.thenCode (C.ret (At.thenRet ?_))))))
 refine At.ret1 Tryz.results73 rfl ?_
 first
 | (have hf : failB D = true := c4
    have e : synD D = failD D := by unfold synD; rw [if_pos hf]; rfl
    exact ⟨by unfold synE; rw [if_pos hf]; rfl, by rw [e]; exact hD1, hcF⟩)
 | (have hf : ¬ failB D = true := by simpa using c4
    have hsd : synD D = ⟨D.room, D.bs, D.bs.length, D.fails.tail⟩ := by unfold synD; rw [if_neg hf]
    refine ⟨by unfold synE; rw [if_neg hf]; rfl, ?_, hcF.trans (hc5.mono fun k hk => by rw [hk]; exact hD.own)⟩
    have hok := synD_ok hD.ok
    rw [hsd] at hok ⊢
    exact ⟨⟨bo, cb, fo, cf, hB5, ownsRow_chg h2 hc5 (fun k hk e => by obtain ⟨ad, e1, e2⟩ := slice_own hk; exact (h4 ad e1).2 (e2.trans e)), Sl.chg h3 hc5 (fun ad e hne hk => (h5 ad e (fun h => hne (by show List.map _ D.fails.tail = []; rw [show D.fails.tail = [] from h]; rfl))).2.1 hk), h4, h5⟩, hD.own, fun k hk => by have := hD1.lt k hk; have := hc5.size; omega, hok, hD.room, hD.rvb⟩)
 refine C.skip (At.thenCode (C.seq (C.region (W.move rfl rfl (W.move rfl rfl (W.nilCheck rfl rfl (W.fieldB (off := 1) (size := 1) (t := 22) (Fld.of (by kernel_rfl)) rfl rfl rfl ?_)))))))
 refine W.loadB rfl Tryz.underlying22 rfl (by assumption) rfl rfl ?_
 refine W.lenS rfl Tryz.underlying22 rfl (W.nilCheck rfl rfl (W.fieldB (off := 2) (size := 1) (t := 3) (Fld.of (by kernel_rfl)) rfl rfl rfl ?_))
 refine W.store1 rfl rfl rfl h1 (by simp) (by kernel_rfl) ?_
 intro w5 hc5 hB5
 have hB5 : Bk w5 g [.int .i64 rv, .slice bo D.bs.length cb, .int .i64 (D.bs.length : Int), .slice fo (failD D).fails.length cf] := hB5
 refine W.nil (At.thenCode (C.seq (C.region (W.assign rfl rfl (W.nil (At.thenCode (C.ret ?_)))))))
 refine At.ret1 Tryz.results73 rfl ?_
 first
 | (have hf : failB D = true := c4
    have e : synD D = failD D := by unfold synD; rw [if_pos hf]; rfl
    exact ⟨by unfold synE; rw [if_pos hf]; rfl, by rw [e]; exact hD1, hcF⟩)
 | (have hf : ¬ failB D = true := by simpa using c4
    have hsd : synD D = ⟨D.room, D.bs, D.bs.length, D.fails.tail⟩ := by unfold synD; rw [if_neg hf]
    refine ⟨by unfold synE; rw [if_neg hf]; rfl, ?_, hcF.trans (hc5.mono fun k hk => by rw [hk]; exact hD.own)⟩
    have hok := synD_ok hD.ok
    rw [hsd] at hok ⊢
    exact ⟨⟨bo, cb, fo, cf, hB5, ownsRow_chg h2 hc5 (fun k hk e => by obtain ⟨ad, e1, e2⟩ := slice_own hk; exact (h4 ad e1).2 (e2.trans e)), Sl.chg h3 hc5 (fun ad e hne hk => (h5 ad e (fun h => hne (by show List.map _ D.fails.tail = []; rw [show D.fails.tail = [] from h]; rfl))).2.1 hk), h4, h5⟩, hD.own, fun k hk => by have := hD1.lt k hk; have := hc5.size; omega, hok, hD.room, hD.rvb⟩)
theorem Bytes_ok (F : Nat → Prop) (g : Nat) (rv : Int) (D : Dsk) (w : World) (hD : Dk w F g rv D) : Ct Tryz.prog 22 #[.pointer (some ⟨g, 0, none⟩)] w (fun v w' => (∃ ao c, v = .slice ao D.bs.length c ∧ Bs w' ao c D.bs ∧ ∀ ad, ao = some ad → w.heap.size ≤ ad.block) ∧ Ext w w') := by
 obtain ⟨bo, cb, fo, cf, h1, h2, h3, h4, h5⟩ := hD.out
 have hsm := hD.ok.small
 obtain ⟨_, _, he2, hS2, _⟩ := ownsRow_form h2
 injection he2 with e1 e2 e3
 subst e1; subst e3
 refine Ct.enter [(0, .pointer (some ⟨g, 0, none⟩))] Tryz.func22 rfl rfl rfl rfl ?_
 refine C.seq (C.region (W.assign rfl rfl (W.nil (At.thenCode (C.seq (C.region (W.move rfl rfl (W.nilCheck rfl rfl (W.fieldB (off := 1) (size := 1) (t := 22) (Fld.of (by kernel_rfl)) rfl rfl rfl ?_)))))))))
 refine W.loadB rfl Tryz.underlying22 rfl (by assumption) rfl rfl ?_
 refine W.call Tryz.call54 rfl (Disk.cloneB_ok _ _ _ _ hS2 (by omega)) rfl ?_
 rintro v7 w7 ⟨ho7, hX7⟩
 refine W.assign rfl rfl (W.nil (At.thenCode (C.ret ?_)))
 refine At.ret1 Tryz.results22 rfl ?_
 obtain ⟨ao7, c7, rfl, hS7, hb7⟩ := ownsRow_form ho7
 exact ⟨⟨ao7, c7, rfl, hS7, hb7⟩, hX7⟩
theorem Fail_ok (F : Nat → Prop) (g : Nat) (rv : Int) (D : Dsk) (lo : Option Addr) (lc : Nat) (l : List Int) (w : World) (hD : Dk w F g rv D) (hl : Zs w lo lc l) (hll : l.length ≤ 1000000000) : Ct Tryz.prog 18 #[.pointer (some ⟨g, 0, none⟩), .slice lo l.length lc] w (fun v w' => Dk w' (Grown F w w') g rv (setFails D l) ∧ Chg F w w') := by
 obtain ⟨bo, cb, fo, cf, h1, h2, h3, h4, h5⟩ := hD.out
 have hlt := hD.lt
 refine Ct.enter [(0, .pointer (some ⟨g, 0, none⟩)), (1, .slice lo l.length lc)] Tryz.func18 rfl rfl rfl rfl ?_
 refine C.region (W.move rfl rfl (W.move rfl rfl ?_))
 refine W.call Tryz.call48 rfl (Disk.cloneZ_ok _ _ _ _ hl (by omega)) rfl ?_
 rintro v6 w6 ⟨ho6, hX6⟩
 have hlt6 := fun k hk => (World.ownsRow.lt ho6 k hk).2
 obtain ⟨ao6, c6, rfl, hS6, hb6⟩ := ownsRow_form ho6
 have h1 := h1.ext hX6
 have hx6 := hX6.size
 refine W.nilCheck rfl rfl (W.fieldB (off := 3) (size := 1) (t := 41) (Fld.of (by kernel_rfl)) rfl rfl rfl ?_)
 refine W.store1 rfl rfl rfl h1 (by simp) (by kernel_rfl) ?_
 intro w7 hc7 hB7
 refine W.nil ?_
 refine At.end0 Tryz.results18 ?_
 refine ⟨?_, (hX6.mono fun _ c => c.elim).trans (hc7.mono fun k hk => by rw [hk]; exact hD.own)⟩
 exact Dk.rebuild (D := setFails D l) hD.own hlt hx6 hB7 (ownsRow_ext h2 hX6) hS6 hc7 (fun ad e => ⟨.inl (h4 ad e).1, (h4 ad e).2⟩) (fun ad e _ => by
   have hb := hb6 ad e
   have hl6 := hlt6 ad.block (by rw [e]; rfl)
   exact ⟨.inr ⟨hb, hl6⟩, fun c => by have := hlt g hD.own; omega, fun ad' e' c => by have := hlt _ (h4 ad' e').1; omega⟩) (setFails_ok hD.ok (by omega)) hD.room hD.rvb
theorem RSync_ok (F : Nat → Prop) (g : Nat) (rv : Int) (D : Dsk) (w : World) (hD : Dk w F g rv D) : Ct Tryz.prog 77 #[.pointer (some ⟨g, 0, none⟩)] w (fun v w' => v = .int .i64 (synE D : Int) ∧ Dk w' F g rv (synD D) ∧ Chg F w w') := by
 refine Ct.enter [(0, .pointer (some ⟨g, 0, none⟩))] Tryz.func77 rfl rfl rfl rfl ?_
 refine C.seq (C.region (W.assign rfl rfl (W.nil (At.thenCode (C.seq (C.seq (C.region (W.move rfl rfl ?_))))))))
 refine W.call Tryz.call27 rfl (Disk.Rfailing_ok F g rv D _ hD) rfl ?_
 rintro v4 w4 ⟨rfl, hD1, hc4⟩
 obtain ⟨bo, cb, fo, cf, h1, h2, h3, h4, h5⟩ := hD1.out
 have hcF : Chg F w w4 := hc4.mono fun k hk => by rw [hk]; exact hD.own
 refine W.nil (At.thenCode ?_)
 first | refine C.condD rfl (fun c4 => ?_) (fun c4 => ?_) | refine C.cond rfl (fun c4 => ?_) (fun c4 => ?_)
 refine C.seq (C.region (W.assign rfl rfl (W.nil (At.thenCode (C.ret (At.thenRet ?_))))))
 refine At.ret1 Tryz.results77 rfl ?_
 first
 | (have hf : failB D = true := c4
    have e : synD D = failD D := by unfold synD; rw [if_pos hf]; rfl
    exact ⟨by unfold synE; rw [if_pos hf]; rfl, by rw [e]; exact hD1, hcF⟩)
 | (have hf : ¬ failB D = true := by simpa using c4
    have hsd : synD D = ⟨D.room, D.bs, D.bs.length, D.fails.tail⟩ := by unfold synD; rw [if_neg hf]
    refine ⟨by unfold synE; rw [if_neg hf]; rfl, ?_, hcF.trans (hc5.mono fun k hk => by rw [hk]; exact hD.own)⟩
    have hok := synD_ok hD.ok
    rw [hsd] at hok ⊢
    exact ⟨⟨bo, cb, fo, cf, hB5, ownsRow_chg h2 hc5 (fun k hk e => by obtain ⟨ad, e1, e2⟩ := slice_own hk; exact (h4 ad e1).2 (e2.trans e)), Sl.chg h3 hc5 (fun ad e hne hk => (h5 ad e (fun h => hne (by show List.map _ D.fails.tail = []; rw [show D.fails.tail = [] from h]; rfl))).2.1 hk), h4, h5⟩, hD.own, fun k hk => by have := hD1.lt k hk; have := hc5.size; omega, hok, hD.room, hD.rvb⟩)
 refine C.skip (At.thenCode (C.seq (C.region (W.move rfl rfl (W.move rfl rfl (W.nilCheck rfl rfl (W.fieldB (off := 1) (size := 1) (t := 22) (Fld.of (by kernel_rfl)) rfl rfl rfl ?_)))))))
 refine W.loadB rfl Tryz.underlying22 rfl (by assumption) rfl rfl ?_
 refine W.lenS rfl Tryz.underlying22 rfl (W.nilCheck rfl rfl (W.fieldB (off := 2) (size := 1) (t := 3) (Fld.of (by kernel_rfl)) rfl rfl rfl ?_))
 refine W.store1 rfl rfl rfl h1 (by simp) (by kernel_rfl) ?_
 intro w5 hc5 hB5
 have hB5 : Bk w5 g [.int .i64 rv, .slice bo D.bs.length cb, .int .i64 (D.bs.length : Int), .slice fo (failD D).fails.length cf] := hB5
 refine W.nil (At.thenCode (C.seq (C.region (W.assign rfl rfl (W.nil (At.thenCode (C.ret ?_)))))))
 refine At.ret1 Tryz.results77 rfl ?_
 first
 | (have hf : failB D = true := c4
    have e : synD D = failD D := by unfold synD; rw [if_pos hf]; rfl
    exact ⟨by unfold synE; rw [if_pos hf]; rfl, by rw [e]; exact hD1, hcF⟩)
 | (have hf : ¬ failB D = true := by simpa using c4
    have hsd : synD D = ⟨D.room, D.bs, D.bs.length, D.fails.tail⟩ := by unfold synD; rw [if_neg hf]
    refine ⟨by unfold synE; rw [if_neg hf]; rfl, ?_, hcF.trans (hc5.mono fun k hk => by rw [hk]; exact hD.own)⟩
    have hok := synD_ok hD.ok
    rw [hsd] at hok ⊢
    exact ⟨⟨bo, cb, fo, cf, hB5, ownsRow_chg h2 hc5 (fun k hk e => by obtain ⟨ad, e1, e2⟩ := slice_own hk; exact (h4 ad e1).2 (e2.trans e)), Sl.chg h3 hc5 (fun ad e hne hk => (h5 ad e (fun h => hne (by show List.map _ D.fails.tail = []; rw [show D.fails.tail = [] from h]; rfl))).2.1 hk), h4, h5⟩, hD.own, fun k hk => by have := hD1.lt k hk; have := hc5.size; omega, hok, hD.room, hD.rvb⟩)
theorem RBytes_ok (F : Nat → Prop) (g : Nat) (rv : Int) (D : Dsk) (w : World) (hD : Dk w F g rv D) : Ct Tryz.prog 23 #[.pointer (some ⟨g, 0, none⟩)] w (fun v w' => (∃ ao c, v = .slice ao D.bs.length c ∧ Bs w' ao c D.bs ∧ ∀ ad, ao = some ad → w.heap.size ≤ ad.block) ∧ Ext w w') := by
 obtain ⟨bo, cb, fo, cf, h1, h2, h3, h4, h5⟩ := hD.out
 have hsm := hD.ok.small
 obtain ⟨_, _, he2, hS2, _⟩ := ownsRow_form h2
 injection he2 with e1 e2 e3
 subst e1; subst e3
 refine Ct.enter [(0, .pointer (some ⟨g, 0, none⟩))] Tryz.func23 rfl rfl rfl rfl ?_
 refine C.seq (C.region (W.assign rfl rfl (W.nil (At.thenCode (C.seq (C.region (W.move rfl rfl (W.nilCheck rfl rfl (W.fieldB (off := 1) (size := 1) (t := 22) (Fld.of (by kernel_rfl)) rfl rfl rfl ?_)))))))))
 refine W.loadB rfl Tryz.underlying22 rfl (by assumption) rfl rfl ?_
 refine W.appendB E8 Tryz.underlying22 rfl rfl (Ow.nil _ w.heap.size 5) hS2 (by simp; omega) (Nat.le_refl _) rfl ?_
 rw [List.nil_append]
 intro v7 w7 ho7 hg7 _
 have hX7 : Ext w w7 := (Chg.of_grown hg7).mono fun k hk => by cases hk
 refine W.assign rfl rfl (W.nil (At.thenCode (C.ret ?_)))
 refine At.ret1 Tryz.results23 rfl ?_
 obtain ⟨ao7, c7, rfl, hS7, hb7⟩ := ownsRow_form ho7
 exact ⟨⟨ao7, c7, rfl, hS7, hb7⟩, hX7⟩
theorem RFail_ok (F : Nat → Prop) (g : Nat) (rv : Int) (D : Dsk) (lo : Option Addr) (lc : Nat) (l : List Int) (w : World) (hD : Dk w F g rv D) (hl : Zs w lo lc l) (hll : l.length ≤ 1000000000) : Ct Tryz.prog 19 #[.pointer (some ⟨g, 0, none⟩), .slice lo l.length lc] w (fun v w' => Dk w' (Grown F w w') g rv (setFails D l) ∧ Chg F w w') := by
 obtain ⟨bo, cb, fo, cf, h1, h2, h3, h4, h5⟩ := hD.out
 have hlt := hD.lt
 refine Ct.enter [(0, .pointer (some ⟨g, 0, none⟩)), (1, .slice lo l.length lc)] Tryz.func19 rfl rfl rfl rfl ?_
 refine C.region (W.move rfl rfl (W.move rfl rfl ?_))
 refine W.append (cs := []) XI Tryz.underlying41 rfl rfl (World.ownsRow_nil _ w.heap.size 3 1) hl (z_oneCell l) (by omega) (by omega) (Nat.le_refl _) rfl ?_
 rw [List.nil_append, Nat.zero_add]
 intro v6 w6 ho6 hg6 _
 have hX6 : Ext w w6 := (Chg.of_grown hg6).mono fun k hk => by cases hk
 have hlt6 := fun k hk => (World.ownsRow.lt ho6 k hk).2
 obtain ⟨ao6, c6, rfl, hS6, hb6⟩ := ownsRow_form ho6
 have h1 := h1.ext hX6
 have hx6 := hX6.size
 refine W.nilCheck rfl rfl (W.fieldB (off := 3) (size := 1) (t := 41) (Fld.of (by kernel_rfl)) rfl rfl rfl ?_)
 refine W.store1 rfl rfl rfl h1 (by simp) (by kernel_rfl) ?_
 intro w7 hc7 hB7
 refine W.nil ?_
 refine At.end0 Tryz.results19 ?_
 refine ⟨?_, (hX6.mono fun _ c => c.elim).trans (hc7.mono fun k hk => by rw [hk]; exact hD.own)⟩
 exact Dk.rebuild (D := setFails D l) hD.own hlt hx6 hB7 (ownsRow_ext h2 hX6) hS6 hc7 (fun ad e => ⟨.inl (h4 ad e).1, (h4 ad e).2⟩) (fun ad e _ => by
   have hb := hb6 ad e
   have hl6 := hlt6 ad.block (by rw [e]; rfl)
   exact ⟨.inr ⟨hb, hl6⟩, fun c => by have := hlt g hD.own; omega, fun ad' e' c => by have := hlt _ (h4 ad' e').1; omega⟩) (setFails_ok hD.ok (by omega)) hD.room hD.rvb
end Go.Proofs.YthiijdbiikljpaaGreat.Disk
namespace Go.Proofs.YthiijdbiikljpaaGreat.Grp
open Go Go.RowKit Go.Proofs.YthiijdbiikljpaaGreat.KW Go.Proofs.YthiijdbiikljpaaGreat.Words
set_option linter.unusedVariables false
set_option linter.unusedSimpArgs false
set_option maxRecDepth 100000
abbrev Rt (x : Nat) : Prop := 0 < x ∧ x < 2305843009213693951
theorem Right_ok (x : Nat) (w : World) :
   Ct Tryz.prog 112 #[.int .u64 (x : Int)] w (fun v w' => v = .bool (decide (Rt x)) ∧ w = w') := by
 refine Ct.enter [(0, .int .u64 (x : Int))] Tryz.func112 rfl rfl rfl rfl ?_
 refine C.seq (C.region (W.assign rfl rfl (W.nil (At.thenCode (C.seq (C.region (W.move rfl rfl ?_)))))))
 refine W.gtrU (n := 0) rfl rfl rfl ?_
 refine W.move rfl rfl ?_
 refine W.splitD (fun g5 => ?_) (fun g5 => ?_)
 refine W.wants rfl rfl rfl rfl (W.move rfl rfl (W.wants rfl rfl rfl rfl ?_))
 refine W.lssU (n := 2305843009213693951) rfl rfl rfl ?_
 refine W.pickT rfl rfl rfl (W.assign rfl rfl (W.nil (At.thenCode (C.ret ?_))))
 refine At.ret1 Tryz.results112 rfl ?_
 exact ⟨by congr 1; simp only [decide_eq_decide, eq_comm, Rt]; first | omega | (simp; omega), rfl⟩
 refine W.skips rfl rfl rfl rfl rfl rfl (W.skips rfl rfl rfl rfl rfl rfl (W.pickF rfl rfl rfl (W.assign rfl rfl (W.nil (At.thenCode (C.ret ?_))))))
 refine At.ret1 Tryz.results112 rfl ?_
 exact ⟨by congr 1; simp only [decide_eq_decide, eq_comm, Rt]; first | omega | (simp; omega), rfl⟩
theorem RRight_ok (x : Nat) (w : World) :
   Ct Tryz.prog 104 #[.int .u64 (x : Int)] w (fun v w' => v = .bool (decide (Rt x)) ∧ w = w') := by
 refine Ct.enter [(0, .int .u64 (x : Int))] Tryz.func104 rfl rfl rfl rfl ?_
 refine C.seq (C.region (W.assign rfl rfl (W.nil (At.thenCode (C.seq (C.region (W.move rfl rfl ?_)))))))
 refine W.geqU (n := 1) rfl rfl rfl ?_
 refine W.move rfl rfl ?_
 refine W.splitD (fun g5 => ?_) (fun g5 => ?_)
 refine W.wants rfl rfl rfl rfl (W.move rfl rfl (W.wants rfl rfl rfl rfl ?_))
 refine W.lssU (n := 2305843009213693951) rfl rfl rfl ?_
 refine W.pickT rfl rfl rfl (W.assign rfl rfl (W.nil (At.thenCode (C.ret ?_))))
 refine At.ret1 Tryz.results104 rfl ?_
 exact ⟨by congr 1; simp only [decide_eq_decide, eq_comm, Rt]; first | omega | (simp; omega), rfl⟩
 refine W.skips rfl rfl rfl rfl rfl rfl (W.skips rfl rfl rfl rfl rfl rfl (W.pickF rfl rfl rfl (W.assign rfl rfl (W.nil (At.thenCode (C.ret ?_))))))
 refine At.ret1 Tryz.results104 rfl ?_
 exact ⟨by congr 1; simp only [decide_eq_decide, eq_comm, Rt]; first | omega | (simp; omega), rfl⟩
end Go.Proofs.YthiijdbiikljpaaGreat.Grp
