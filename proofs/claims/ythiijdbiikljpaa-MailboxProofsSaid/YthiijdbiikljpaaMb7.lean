/- Rows of structs that a call owns: stores, clearing, parts; package slices' DeleteFunc over a store's rows. -/
import Derived.Test.YthiijdbiikljpaaMb6
namespace Go.Proofs.Ythiijdbiikljpaa.Mbx
open Go Go.RowKit Go.Proofs.Ythiijdbiikljpaa.KW Go.Proofs.Ythiijdbiikljpaa.Words Go.Proofs.Ythiijdbiikljpaa.Sha Go.Proofs.Ythiijdbiikljpaa.RSha Go.Proofs.Ythiijdbiikljpaa.Grp Go.Proofs.Ythiijdbiikljpaa.Cod Go.Proofs.Ythiijdbiikljpaa.Disk
set_option linter.unusedVariables false
set_option linter.unusedSimpArgs false
set_option maxRecDepth 100000
theorem own_setCell {w : World} {base e sz n c g o : Nat} {cs : List Value} {u : Value} (ho : w.ownsRow base e sz (.slice (some ⟨g, 0, none⟩) n c) n cs) : (w.setCell ⟨g, o, none⟩ u).ownsRow base e sz (.slice (some ⟨g, 0, none⟩) n c) n (cs.set o u) := by
  rcases ho.2 with ⟨h0, _⟩ | ⟨g', cap, cur, hv, hb, hg, hnc, hcm, hcs, htake⟩
  · cases h0
  · injection hv with h1 h2 h3
    injection h1 with h1
    injection h1 with h1
    subst h1; subst h3
    exact ⟨by rw [List.length_set]; exact ho.1, .inr ⟨g, c, cur.setIfInBounds o u, rfl, hb, heap_setCell_same w g o cur e u hg, hnc, hcm, by rw [Array.size_setIfInBounds]; exact hcs, by rw [← htake, Array.toList_setIfInBounds, List.take_set]⟩⟩
theorem own_setCells {base e sz n c g : Nat} : ∀ (vs : List Value) (o : Nat) (w : World) (cs : List Value), w.ownsRow base e sz (.slice (some ⟨g, 0, none⟩) n c) n cs → (w.setCells g o vs).ownsRow base e sz (.slice (some ⟨g, 0, none⟩) n c) n (KW.splice cs o vs) ∧ Chg (fun k => k = g) w (w.setCells g o vs)
  | [], o, w, cs, h => ⟨h, Chg.refl _ _⟩
  | v :: r, o, w, cs, h => by
    obtain ⟨h1, h2⟩ := own_setCells r (o + 1) (w.setCell ⟨g, o, none⟩ v) (cs.set o v) (own_setCell h)
    exact ⟨h1, (Chg.setCell w g o v).trans h2⟩
theorem own_bk {w : World} {base e sz n c g : Nat} {cs : List Value} (ho : w.ownsRow base e sz (.slice (some ⟨g, 0, none⟩) n c) n cs) : ∃ cur : List Value, Bk w g cur ∧ n * sz ≤ cur.length ∧ n ≤ c := by
  rcases ho.2 with ⟨h0, _⟩ | ⟨g', cap, cur, hv, hb, hg, hnc, hcm, hcs, htake⟩
  · cases h0
  · injection hv with h1 h2 h3
    injection h1 with h1
    injection h1 with h1
    subst h1; subst h3
    exact ⟨cur.toList, ⟨e, by simpa using hg⟩, by rw [Array.length_toList, hcs]; exact Nat.mul_le_mul_right _ hnc, hnc⟩
theorem own_prefix {w : World} {base e sz n c g i : Nat} {cs : List Value} (ho : w.ownsRow base e sz (.slice (some ⟨g, 0, none⟩) n c) n cs) (hi : i ≤ n) : w.ownsRow base e sz (.slice (some ⟨g, 0, none⟩) i c) i (cs.take (i * sz)) := by
  rcases ho.2 with ⟨h0, _⟩ | ⟨g', cap, cur, hv, hb, hg, hnc, hcm, hcs, htake⟩
  · cases h0
  · injection hv with h1 h2 h3
    injection h1 with h1
    injection h1 with h1
    subst h1; subst h3
    have hle : i * sz ≤ n * sz := Nat.mul_le_mul_right _ hi
    refine ⟨by rw [List.length_take, ho.1]; omega, .inr ⟨g, c, cur, rfl, hb, hg, by omega, hcm, hcs, ?_⟩⟩
    rw [← htake, List.take_take, Nat.min_eq_left hle]
section
variable {P : Program} {N : Nat} {Q : Exit → Act → World → Prop} {l : Env} {w : World} {ops : Array Oper} {rest : List Oper} {d : Tmp} {ty : TypeId} {pos : String} {aft : Array Edge}
variable {x y : Operand} {T T' : TypeId}
/-- A store of a struct into a row that is owned. -/
theorem W.storeOs {t e sz base n c g o : Nat} {vs cs : List Value} (hx : ev l x = some (.pointer (some ⟨g, o, none⟩))) (hy : ev l y = some (.agg vs.toArray)) (h1 : ∀ u ∈ vs, u.oneCell' = true) (ho : w.ownsRow base e sz (.slice (some ⟨g, 0, none⟩) n c) n cs) (hi : o + vs.length ≤ n * sz) (hs : (P.info? t).map (·.size) = some vs.length)
    (next : ∀ w', Chg (fun k => k = g) w w' → w'.ownsRow base e sz (.slice (some ⟨g, 0, none⟩) n c) n (KW.splice cs o vs) → W P N ops Q rest l w') : W P N ops Q (⟨none, .store t x y, ty, pos, aft, none⟩ :: rest) l w := by
  obtain ⟨cur, hB, hl, _⟩ := own_bk ho
  obtain ⟨h2, h3⟩ := own_setCells vs o w cs ho
  refine W.opSkip (w' := w.setCells g o vs) rfl rfl (fun a ha => ?_) (next _ h3 h2)
  have := run_storeAny (P := P) w g o t (.agg vs.toArray) vs cur rfl hB (by omega) hs h1
  simp [execOp, ha.ev hx, ha.ev hy, Instr.storeAt, Instr.sureAddr, this]
/-- A part of a slice, its place told. -/
theorem W.sliceX {t e n c sz lo hi : Nat} {z : Value} {bytes : Nat} {ao : Option Addr} {ol oh : Option Operand} (hE : Elem P e sz bytes z) (hT : P.underlying t = some (.slice e)) (hx : ev l x = some (.slice ao n c)) (hle : n ≤ c)
    (hlo : (ol = none ∧ lo = 0) ∨ ∃ o k, ol = some o ∧ ev l o = some (.int k (lo : Int))) (hhi : (oh = none ∧ hi = n) ∨ ∃ o k, oh = some o ∧ ev l o = some (.int k (hi : Int))) (h1 : lo ≤ hi) (h2 : hi ≤ n) (hN : Nat.blt d N = true)
    (next : W P N ops Q rest ((d, .slice (if c = lo then ao else ao.map (·.add (lo * sz))) (hi - lo) (c - lo)) :: l) w) :
    W P N ops Q (⟨some d, .slice t x ol oh none, ty, pos, aft, none⟩ :: rest) l w := by
  obtain ⟨i, hi', hz, hsz, hby⟩ := hE.out
  refine W.op (v := .slice (if c = lo then ao else ao.map (·.add (lo * sz))) (hi - lo) (c - lo)) (w' := w) rfl rfl hN (fun a ha => ?_) next
  have b1 : ∀ (m : Nat) (k : IntKind) (code : BoundsCode) (j : Nat), j ≤ m → (Instr.sliceBound (.int k (j : Int)) m code).run P w = .ok j w := by
    intro m k code j hj
    have : (0 : Int) ≤ (j : Int) ∧ (j : Int) ≤ (m : Int) := by omega
    simp [Instr.sliceBound, asIntOf, this]
  have hrun : (Instr.slice t (.slice ao n c) (ol.map a.eval) (oh.map a.eval) none).run P w = .ok (.slice (if c = lo then ao else ao.map (·.add (lo * sz))) (hi - lo) (c - lo)) w := by
    rcases hlo with ⟨rfl, rfl⟩ | ⟨o1, k1, rfl, hv1⟩ <;> rcases hhi with ⟨rfl, rfl⟩ | ⟨o2, k2, rfl, hv2⟩
    · simp [Instr.slice, run_underlying hT, Instr.sliceBounds, sizeOf, typeInfo, hi', hsz]
    · simp [Instr.slice, run_underlying hT, Instr.sliceBounds, sizeOf, typeInfo, hi', hsz, ha.ev hv2, b1 c k2 _ hi (by omega)]
    · simp [Instr.slice, run_underlying hT, Instr.sliceBounds, sizeOf, typeInfo, hi', hsz, ha.ev hv1, b1 hi k1 _ lo h1]
    · simp [Instr.slice, run_underlying hT, Instr.sliceBounds, sizeOf, typeInfo, hi', hsz, ha.ev hv1, ha.ev hv2, b1 c k2 _ hi (by omega), b1 hi k1 _ lo h1]
  simp only [execOp, Instr.sliceAt, ha.ev hx, Sem.run_bind, Sem.run_pure, Result.andThen_ok, run_underlying hT, Option.map_none, hrun]
theorem zeroCells_list {z : Value} {zs : List Value} (hz : z.cells = zs.toArray) (h1 : ∀ u ∈ zs, u.oneCell' = true) (h0 : 0 < zs.length) (m : Nat) : (Builtin.zeroCells z.cells m).toList.length = m * zs.length ∧ ∀ u ∈ (Builtin.zeroCells z.cells m).toList, u.oneCell' = true := by
  rw [hz]
  refine ⟨by simp [Builtin.zeroCells], fun u hu => ?_⟩
  simp only [Builtin.zeroCells, Array.toList_map, List.mem_map, List.size_toArray] at hu
  obtain ⟨i, _, rfl⟩ := hu
  have hlt : i % zs.length < zs.length := Nat.mod_lt _ h0
  have : zs.toArray[i % zs.length]! = zs[i % zs.length] := by simp [getElem!_pos, hlt]
  rw [this]
  exact h1 _ (List.getElem_mem hlt)
/-- clear(s[lo:]) of a row that is owned. -/
theorem W.clearO {t e sz bytes base n c c' g lo : Nat} {z : Value} {zs cs : List Value} (hE : Elem P e sz bytes z) (hT : P.underlying t = some (.slice e)) (hz : z.cells = zs.toArray) (h1 : ∀ u ∈ zs, u.oneCell' = true) (hzl : zs.length = sz) (hx : ev l x = some (.slice (some ⟨g, lo * sz, none⟩) (n - lo) c')) (hlo : lo < n) (ho : w.ownsRow base e sz (.slice (some ⟨g, 0, none⟩) n c) n cs)
    (next : ∀ w' cs', Chg (fun k => k = g) w w' → w'.ownsRow base e sz (.slice (some ⟨g, 0, none⟩) n c) n cs' → (∀ i, i < lo * sz → cs'[i]? = cs[i]?) → W P N ops Q rest l w') :
    W P N ops Q (⟨none, .call ⟨.builtin .clear, #[x], #[t]⟩, ty, pos, aft, none⟩ :: rest) l w := by
  obtain ⟨i, hi, hz0, hsz, hby⟩ := hE.out
  have hpos := hE.pos
  obtain ⟨hzc1, hzc2⟩ := zeroCells_list hz h1 (by omega) (n - lo)
  obtain ⟨vs, hvs⟩ : ∃ vs, vs = (Builtin.zeroCells z.cells (n - lo)).toList := ⟨_, rfl⟩
  rw [← hvs, hzl] at hzc1
  rw [← hvs] at hzc2
  obtain ⟨cur, hB, hl, _⟩ := own_bk ho
  obtain ⟨h2, h3⟩ := own_setCells vs (lo * sz) w cs ho
  have hfit : lo * sz + vs.length ≤ n * sz := by rw [hzc1, ← Nat.add_mul]; exact Nat.mul_le_mul_right _ (by omega)
  refine W.opNone (v := .tuple #[]) (w' := w.setCells g (lo * sz) vs) rfl rfl (fun a ha => ?_) (next _ _ h3 h2 fun j hj => ?_)
  · have hst := run_storeCells_cells (P := P) g (lo * sz) vs 0 w (fun j hj => by
      rw [Nat.add_zero, hB.cell (List.getElem?_eq_getElem (by omega))]; rfl) (fun j hj => hB.frozen) hzc2
    simp only [Nat.add_zero] at hst
    have hzv : (zeroValue e).run P w = .ok z w := by simp [zeroValue, typeInfo, hi, hz0]
    obtain ⟨m, hm⟩ : ∃ m, n - lo = m + 1 := ⟨n - lo - 1, by omega⟩
    have hrun : (Builtin.clear_ #[t] ty #[.slice (some ⟨g, lo * sz, none⟩) (n - lo) c']).run P w = .ok (.tuple #[]) (w.setCells g (lo * sz) vs) := by
      rw [hm] at hvs ⊢
      simp [Builtin.clear_, run_underlying hT, hzv, ← hvs, hst]
    simp only [execOp, resolve, invoke, builtin, Sem.run_bind, Sem.run_pure, Result.andThen_ok, List.map_toArray, List.map_cons, List.map_nil, ha.ev hx, hrun]
  · rw [splice_get _ _ _ _ (by rw [ho.1]; exact hfit), if_neg (by omega)]
end
/-- A part of cells, two each. -/
theorem splice_part {cs vs : List Value} {sz i k n : Nat} (hc : cs.length = n * sz) (hv : vs.length = sz) (hi : i < n) (hk : k < n) : ((KW.splice cs (i * sz) vs).drop (k * sz)).take sz = if k = i then vs else (cs.drop (k * sz)).take sz := by
  have hfit : i * sz + vs.length ≤ cs.length := by
    rw [hv, hc, ← Nat.succ_mul]; exact Nat.mul_le_mul_right _ hi
  have hkf : k * sz + sz ≤ n * sz := by rw [← Nat.succ_mul]; exact Nat.mul_le_mul_right _ hk
  apply List.ext_getElem?
  intro j
  by_cases hj : j < sz
  · rw [List.getElem?_take, if_pos hj, List.getElem?_drop, splice_get _ _ _ _ hfit]
    by_cases hki : k = i
    · subst hki
      rw [if_pos rfl, if_pos (by omega), Nat.add_sub_cancel_left]
    · rw [if_neg hki, List.getElem?_take, if_pos hj, List.getElem?_drop, if_neg]
      rcases Nat.lt_or_gt_of_ne hki with h | h
      · have : (k + 1) * sz ≤ i * sz := Nat.mul_le_mul_right _ h
        rw [Nat.succ_mul] at this
        omega
      · have : (i + 1) * sz ≤ k * sz := Nat.mul_le_mul_right _ h
        rw [Nat.succ_mul] at this
        omega
  · rw [List.getElem?_take, if_neg hj]
    split
    · exact (List.getElem?_eq_none (by omega)).symm
    · rw [List.getElem?_take, if_neg hj]
end Go.Proofs.Ythiijdbiikljpaa.Mbx
