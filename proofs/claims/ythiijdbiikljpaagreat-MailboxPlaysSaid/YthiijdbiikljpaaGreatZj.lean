/-  -/
import Derived.Test.YthiijdbiikljpaaGreatZg
import Derived.Test.YthiijdbiikljpaaGreatZi
namespace Go.Proofs.YthiijdbiikljpaaGreat.Mbx
open Go Go.RowKit Go.Proofs.YthiijdbiikljpaaGreat.KW Go.Proofs.YthiijdbiikljpaaGreat.Words Go.Proofs.YthiijdbiikljpaaGreat.Sha Go.Proofs.YthiijdbiikljpaaGreat.RSha Go.Proofs.YthiijdbiikljpaaGreat.Grp Go.Proofs.YthiijdbiikljpaaGreat.Cod Go.Proofs.YthiijdbiikljpaaGreat.Disk
set_option linter.unusedVariables false
set_option linter.unusedSimpArgs false
set_option maxRecDepth 100000
theorem own_setCell {w : World} {base e sz n c g o : Nat} {cs : List Value} {u : Value} (ho : w.ownsRow base e sz (.slice (some ⟨g, 0, none⟩) n c) n cs) : (w.setCell ⟨g, o, none⟩ u).ownsRow base e sz (.slice (some ⟨g, 0, none⟩) n c) n (cs.set o u) := by
 rcases ho.2 with ⟨h0, _⟩ | ⟨g', cap, cur, hv, hb, hg, hnc, hcm, hcs, htake⟩
 cases h0
 injection hv with h1 h2 h3
 injection h1 with h1
 injection h1 with h1
 subst h1; subst h3
 exact ⟨by rw [List.length_set]; exact ho.1, .inr ⟨g, c, cur.setIfInBounds o u, rfl, hb, heap_setCell_same w g o cur e u hg, hnc, hcm, by rw [Array.size_setIfInBounds]; exact hcs, by rw [← htake, Array.toList_setIfInBounds, List.take_set]⟩⟩
theorem own_setCells {base e sz n c g : Nat} : ∀ (vs : List Value) (o : Nat) (w : World) (cs : List Value), w.ownsRow base e sz (.slice (some ⟨g, 0, none⟩) n c) n cs → (w.setCells g o vs).ownsRow base e sz (.slice (some ⟨g, 0, none⟩) n c) n (KW.splice cs o vs) ∧ Chg (fun k => k = g) w (w.setCells g o vs)
 | [], o, w, cs, h => ⟨h, Chg.refl _ _⟩
 | v :: r, o, w, cs, h => by
   obtain ⟨h1, h2⟩ := own_setCells r (o + 1) (w.setCell ⟨g, o, none⟩ v) (cs.set o v) (own_setCell h)
   exact ⟨h1, (Chg.setCell w g o v).trans h2⟩
theorem own_bk {w : World} {base e sz n c g : Nat} {cs : List Value} (ho : w.ownsRow base e sz (.slice (some ⟨g, 0, none⟩) n c) n cs) : ∃ cur : List Value, Bk w g cur ∧ n * sz ≤ cur.length ∧ n ≤ c := by
 rcases ho.2 with ⟨h0, _⟩ | ⟨g', cap, cur, hv, hb, hg, hnc, hcm, hcs, htake⟩
 cases h0
 injection hv with h1 h2 h3
 injection h1 with h1
 injection h1 with h1
 subst h1; subst h3
 exact ⟨cur.toList, ⟨e, by simpa using hg⟩, by rw [Array.length_toList, hcs]; exact Nat.mul_le_mul_right _ hnc, hnc⟩
theorem own_prefix {w : World} {base e sz n c g i : Nat} {cs : List Value} (ho : w.ownsRow base e sz (.slice (some ⟨g, 0, none⟩) n c) n cs) (hi : i ≤ n) : w.ownsRow base e sz (.slice (some ⟨g, 0, none⟩) i c) i (cs.take (i * sz)) := by
 rcases ho.2 with ⟨h0, _⟩ | ⟨g', cap, cur, hv, hb, hg, hnc, hcm, hcs, htake⟩
 cases h0
 injection hv with h1 h2 h3
 injection h1 with h1
 injection h1 with h1
 subst h1; subst h3
 have hle : i * sz ≤ n * sz := Nat.mul_le_mul_right _ hi
 refine ⟨by rw [List.length_take, ho.1]; omega, .inr ⟨g, c, cur, rfl, hb, hg, by omega, hcm, hcs, ?_⟩⟩
 rw [← htake, List.take_take, Nat.min_eq_left hle]
section
variable {P : Program} {N : Nat} {Q : Exit → Act → World → Prop} {l : Env} {w : World} {ops : Array Oper} {rest : List Oper} {d : Tmp} {ty : TypeId} {pos : String} {aft : Array Edge}
variable {x y : Operand} {T T' : TypeId}
theorem W.storeOs {t e sz base n c g o : Nat} {vs cs : List Value} (hx : ev l x = some (.pointer (some ⟨g, o, none⟩))) (hy : ev l y = some (.agg vs.toArray)) (h1 : ∀ u ∈ vs, u.oneCell' = true) (ho : w.ownsRow base e sz (.slice (some ⟨g, 0, none⟩) n c) n cs) (hi : o + vs.length ≤ n * sz) (hs : (P.info? t).map (·.size) = some vs.length)
   (next : ∀ w', Chg (fun k => k = g) w w' → w'.ownsRow base e sz (.slice (some ⟨g, 0, none⟩) n c) n (KW.splice cs o vs) → W P N ops Q rest l w') : W P N ops Q (⟨none, .store t x y, ty, pos, aft, none⟩ :: rest) l w := by
 obtain ⟨cur, hB, hl, _⟩ := own_bk ho
 obtain ⟨h2, h3⟩ := own_setCells vs o w cs ho
 refine W.opSkip (w' := w.setCells g o vs) rfl rfl (fun a ha => ?_) (next _ h3 h2)
 have := run_storeAny (P := P) w g o t (.agg vs.toArray) vs cur rfl hB (by omega) hs h1
 simp [execOp, ha.ev hx, ha.ev hy, Instr.storeAt, Instr.sureAddr, this]
theorem W.sliceX {t e n c sz lo hi : Nat} {z : Value} {bytes : Nat} {ao : Option Addr} {ol oh : Option Operand} (hE : Elem P e sz bytes z) (hT : P.underlying t = some (.slice e)) (hx : ev l x = some (.slice ao n c)) (hle : n ≤ c)
   (hlo : (ol = none ∧ lo = 0) ∨ ∃ o k, ol = some o ∧ ev l o = some (.int k (lo : Int))) (hhi : (oh = none ∧ hi = n) ∨ ∃ o k, oh = some o ∧ ev l o = some (.int k (hi : Int))) (h1 : lo ≤ hi) (h2 : hi ≤ n) (hN : Nat.blt d N = true)
   (next : W P N ops Q rest ((d, .slice (if c = lo then ao else ao.map (·.add (lo * sz))) (hi - lo) (c - lo)) :: l) w) :
   W P N ops Q (⟨some d, .slice t x ol oh none, ty, pos, aft, none⟩ :: rest) l w := by
 obtain ⟨i, hi', hz, hsz, hby⟩ := hE.out
 refine W.op (v := .slice (if c = lo then ao else ao.map (·.add (lo * sz))) (hi - lo) (c - lo)) (w' := w) rfl rfl hN (fun a ha => ?_) next
 have b1 : ∀ (m : Nat) (k : IntKind) (code : BoundsCode) (j : Nat), j ≤ m → (Instr.sliceBound (.int k (j : Int)) m code).run P w = .ok j w := by
   intro m k code j hj
   have : (0 : Int) ≤ (j : Int) ∧ (j : Int) ≤ (m : Int) := by omega
   simp [Instr.sliceBound, asIntOf, this]
 have hrun : (Instr.slice t (.slice ao n c) (ol.map a.eval) (oh.map a.eval) none).run P w = .ok (.slice (if c = lo then ao else ao.map (·.add (lo * sz))) (hi - lo) (c - lo)) w := by
   rcases hlo with ⟨rfl, rfl⟩ | ⟨o1, k1, rfl, hv1⟩ <;> rcases hhi with ⟨rfl, rfl⟩ | ⟨o2, k2, rfl, hv2⟩
   simp [Instr.slice, run_underlying hT, Instr.sliceBounds, sizeOf, typeInfo, hi', hsz]
   simp [Instr.slice, run_underlying hT, Instr.sliceBounds, sizeOf, typeInfo, hi', hsz, ha.ev hv2, b1 c k2 _ hi (by omega)]
   simp [Instr.slice, run_underlying hT, Instr.sliceBounds, sizeOf, typeInfo, hi', hsz, ha.ev hv1, b1 hi k1 _ lo h1]
   simp [Instr.slice, run_underlying hT, Instr.sliceBounds, sizeOf, typeInfo, hi', hsz, ha.ev hv1, ha.ev hv2, b1 c k2 _ hi (by omega), b1 hi k1 _ lo h1]
 simp only [execOp, Instr.sliceAt, ha.ev hx, Sem.run_bind, Sem.run_pure, Result.andThen_ok, run_underlying hT, Option.map_none, hrun]
theorem zeroCells_list {z : Value} {zs : List Value} (hz : z.cells = zs.toArray) (h1 : ∀ u ∈ zs, u.oneCell' = true) (h0 : 0 < zs.length) (m : Nat) : (Builtin.zeroCells z.cells m).toList.length = m * zs.length ∧ ∀ u ∈ (Builtin.zeroCells z.cells m).toList, u.oneCell' = true := by
 rw [hz]
 refine ⟨by simp [Builtin.zeroCells], fun u hu => ?_⟩
 simp only [Builtin.zeroCells, Array.toList_map, List.mem_map, List.size_toArray] at hu
 obtain ⟨i, _, rfl⟩ := hu
 have hlt : i % zs.length < zs.length := Nat.mod_lt _ h0
 have : zs.toArray[i % zs.length]! = zs[i % zs.length] := by simp [getElem!_pos, hlt]
 rw [this]
 exact h1 _ (List.getElem_mem hlt)
theorem W.clearO {t e sz bytes base n c c' g lo : Nat} {z : Value} {zs cs : List Value} (hE : Elem P e sz bytes z) (hT : P.underlying t = some (.slice e)) (hz : z.cells = zs.toArray) (h1 : ∀ u ∈ zs, u.oneCell' = true) (hzl : zs.length = sz) (hx : ev l x = some (.slice (some ⟨g, lo * sz, none⟩) (n - lo) c')) (hlo : lo < n) (ho : w.ownsRow base e sz (.slice (some ⟨g, 0, none⟩) n c) n cs)
   (next : ∀ w' cs', Chg (fun k => k = g) w w' → w'.ownsRow base e sz (.slice (some ⟨g, 0, none⟩) n c) n cs' → (∀ i, i < lo * sz → cs'[i]? = cs[i]?) → W P N ops Q rest l w') :
   W P N ops Q (⟨none, .call ⟨.builtin .clear, #[x], #[t]⟩, ty, pos, aft, none⟩ :: rest) l w := by
 obtain ⟨i, hi, hz0, hsz, hby⟩ := hE.out
 have hpos := hE.pos
 obtain ⟨hzc1, hzc2⟩ := zeroCells_list hz h1 (by omega) (n - lo)
 obtain ⟨vs, hvs⟩ : ∃ vs, vs = (Builtin.zeroCells z.cells (n - lo)).toList := ⟨_, rfl⟩
 rw [← hvs, hzl] at hzc1
 rw [← hvs] at hzc2
 obtain ⟨cur, hB, hl, _⟩ := own_bk ho
 obtain ⟨h2, h3⟩ := own_setCells vs (lo * sz) w cs ho
 have hfit : lo * sz + vs.length ≤ n * sz := by rw [hzc1, ← Nat.add_mul]; exact Nat.mul_le_mul_right _ (by omega)
 refine W.opNone (v := .tuple #[]) (w' := w.setCells g (lo * sz) vs) rfl rfl (fun a ha => ?_) (next _ _ h3 h2 fun j hj => ?_)
 have hst := run_storeCells_cells (P := P) g (lo * sz) vs 0 w (fun j hj => by
   rw [Nat.add_zero, hB.cell (List.getElem?_eq_getElem (by omega))]; rfl) (fun j hj => hB.frozen) hzc2
 simp only [Nat.add_zero] at hst
 have hzv : (zeroValue e).run P w = .ok z w := by simp [zeroValue, typeInfo, hi, hz0]
 obtain ⟨m, hm⟩ : ∃ m, n - lo = m + 1 := ⟨n - lo - 1, by omega⟩
 have hrun : (Builtin.clear_ #[t] ty #[.slice (some ⟨g, lo * sz, none⟩) (n - lo) c']).run P w = .ok (.tuple #[]) (w.setCells g (lo * sz) vs) := by
   rw [hm] at hvs ⊢
   simp [Builtin.clear_, run_underlying hT, hzv, ← hvs, hst]
 simp only [execOp, resolve, invoke, builtin, Sem.run_bind, Sem.run_pure, Result.andThen_ok, List.map_toArray, List.map_cons, List.map_nil, ha.ev hx, hrun]
 rw [splice_get _ _ _ _ (by rw [ho.1]; exact hfit), if_neg (by omega)]
end
theorem splice_part {cs vs : List Value} {sz i k n : Nat} (hc : cs.length = n * sz) (hv : vs.length = sz) (hi : i < n) (hk : k < n) : ((KW.splice cs (i * sz) vs).drop (k * sz)).take sz = if k = i then vs else (cs.drop (k * sz)).take sz := by
 have hfit : i * sz + vs.length ≤ cs.length := by
   rw [hv, hc, ← Nat.succ_mul]; exact Nat.mul_le_mul_right _ hi
 have hkf : k * sz + sz ≤ n * sz := by rw [← Nat.succ_mul]; exact Nat.mul_le_mul_right _ hk
 apply List.ext_getElem?
 intro j
 by_cases hj : j < sz
 rw [List.getElem?_take, if_pos hj, List.getElem?_drop, splice_get _ _ _ _ hfit]
 by_cases hki : k = i
 subst hki
 rw [if_pos rfl, if_pos (by omega), Nat.add_sub_cancel_left]
 rw [if_neg hki, List.getElem?_take, if_pos hj, List.getElem?_drop, if_neg]
 rcases Nat.lt_or_gt_of_ne hki with h | h
 have : (k + 1) * sz ≤ i * sz := Nat.mul_le_mul_right _ h
 rw [Nat.succ_mul] at this
 omega
 have : (i + 1) * sz ≤ k * sz := Nat.mul_le_mul_right _ h
 rw [Nat.succ_mul] at this
 omega
 rw [List.getElem?_take, if_neg hj]
 split
 exact (List.getElem?_eq_none (by omega)).symm
 rw [List.getElem?_take, if_neg hj]
end Go.Proofs.YthiijdbiikljpaaGreat.Mbx
namespace Go.Proofs.YthiijdbiikljpaaGreat.Mbx
open Go Go.RowKit Go.Proofs.YthiijdbiikljpaaGreat.KW Go.Proofs.YthiijdbiikljpaaGreat.Words Go.Proofs.YthiijdbiikljpaaGreat.Sha Go.Proofs.YthiijdbiikljpaaGreat.RSha Go.Proofs.YthiijdbiikljpaaGreat.Grp Go.Proofs.YthiijdbiikljpaaGreat.Cod Go.Proofs.YthiijdbiikljpaaGreat.Disk
set_option linter.unusedVariables false
set_option linter.unusedSimpArgs false
set_option maxRecDepth 100000
abbrev Hd := Int × List UInt8
theorem expire1_ok (A : Nat → Prop) (h : Hd) (hc : List Value) (gr : Nat) (r : Int) (w : World) (hh : RHeld A w hc h) (hr : Bk w gr [.int .i64 r]) :
   Ct Tryz.prog 86 #[.agg hc.toArray, .pointer (some ⟨gr, 0, none⟩)] w (fun v w' => v = .bool (decide (h.1 < r)) ∧ Ext w w') := by
 refine Ct.enter [(0, .agg hc.toArray), (1, .pointer (some ⟨gr, 0, none⟩))] Tryz.func86 rfl rfl rfl rfl ?_
 obtain ⟨vb, rfl, _, _⟩ := hh
 refine C.seq (C.region ?_)
 refine W.box [.int .i64 h.1, vb] rfl rfl rfl ?_
 intro g2 w2 hg2 hX2 hB2
 have hr2 := hr.ext hX2
 refine W.assign rfl rfl (W.nil (At.thenCode (C.seq (C.region (W.fieldB (off := 0) (size := 1) (t := 3) (Fld.of (by kernel_rfl)) rfl rfl rfl ?_)))))
 refine W.loadB (v := .int .i64 h.1) rfl Tryz.underlying3 rfl hB2 rfl rfl ?_
 refine W.loadB (v := .int .i64 r) rfl Tryz.underlying3 rfl hr2 rfl rfl ?_
 refine W.lssI rfl rfl rfl (W.assign rfl rfl (W.nil (At.thenCode (C.ret ?_))))
 refine At.ret1 Tryz.results86 rfl ?_
 exact ⟨rfl, hX2⟩
def FirstR (xs : List Hd) (r : Int) : Option Nat → Prop
  | none => ∀ h ∈ xs, r ≤ h.1
  | some i => ∃ hi : i < xs.length, (xs[i]'hi).1 < r ∧ ∀ h ∈ xs.take i, r ≤ h.1
def idxI : Option Nat → Int
  | none => -1
  | some i => (i : Int)
def expFn (gr : Nat) : Value := .func (.func 86) #[] #[.pointer (some ⟨gr, 0, none⟩)]
theorem IndexFunc_ok (a : Option Addr) (c : Nat) (xs : List Hd) (gr : Nat) (r : Int) (w : World) (hE : Els (fun _ => False) w 2 RHeld a c xs) (hr : Bk w gr [.int .i64 r]) (hl : xs.length ≤ 9223372036854775807) :
   Ct Tryz.prog 107 #[.slice a xs.length c, expFn gr] w (fun v w' => ∃ k, v = .int .i64 (idxI k) ∧ FirstR xs r k ∧ Ext w w') := by
 refine Ct.enter [(0, .slice a xs.length c), (1, expFn gr)] Tryz.func107 rfl rfl rfl rfl ?_
 refine C.seq (C.region (W.assign rfl rfl (W.nil (At.thenCode (C.seq (C.seq (C.region (W.move rfl rfl (W.lenS rfl Tryz.underlying98 rfl (W.move rfl rfl (W.nil ?_)))))))))))
 refine At.thenCode (C.block ?_)
 refine C.loop (X := Nat) (fun x_ => [(0, .slice a xs.length c), (1, expFn gr), (7, .int .i64 (xs.length : Int)), (8, .int .i64 (x_ : Int))]) (fun x_ w1 => x_ ≤ xs.length ∧ Ext w w1 ∧ ∀ h ∈ xs.take x_, r ≤ h.1) (fun x_ => xs.length - x_) (0) (sc rfl (sc rfl (sc rfl (sc rfl (Sub.nil))))) ?start1 ?_
 case start1 =>
   show (0) ≤ xs.length ∧ Ext w _ ∧ ∀ h ∈ xs.take (0), r ≤ h.1
   exact ⟨by omega, Ext.refl _, fun h hh => by simp at hh⟩
 rintro i w1 hI_
 replace hI_ : i ≤ xs.length ∧ Ext w w1 ∧ ∀ h ∈ xs.take i, r ≤ h.1 := hI_
 obtain ⟨hi, hX1, hE1⟩ := hI_
 refine C.weaken (l' := [(0, .slice a xs.length c), (1, expFn gr), (7, .int .i64 (xs.length : Int)), (8, .int .i64 (i : Int))]) (sc rfl (sc rfl (sc rfl (sc rfl (Sub.nil))))) ?_
 refine C.seq (C.region (W.lssI rfl rfl rfl (W.nil (At.thenCode (C.seq ?_)))))
 refine C.condD rfl (fun c9 => ?_) (fun c9 => ?_)
 have hlt : i < xs.length := by omega
 refine C.skip (At.thenCode (C.seq (C.block (C.seq (C.region (W.move rfl rfl (W.assign rfl rfl (W.nil (At.thenCode (C.seq (C.region ?_)))))))))))
 refine W.move rfl rfl (W.move rfl rfl (W.move rfl rfl ?_))
 refine W.indexE EHeld Tryz.underlying98 rfl (hE.ext rHeld hX1) rfl hlt rfl ?_
 rintro ad14 hc14 hcs14 hR14 hl14
 refine W.loadA rfl hcs14 Tryz.underlying100 rfl (by rw [hl14]; kernel_rfl) rfl ?_
 refine W.callV (caps := [.pointer (some ⟨gr, 0, none⟩)]) Tryz.call86 rfl rfl (Mbx.expire1_ok _ (xs[i]'hlt) hc14 gr r _ hR14 (hr.ext hX1)) rfl ?_
 rintro v16 w16 ⟨rfl, hX16⟩
 refine W.nil (At.thenCode ?_)
 refine C.condD rfl (fun c16 => ?_) (fun c16 => ?_)
 refine C.seq (C.region (W.move rfl rfl (W.assign rfl rfl (W.nil (At.thenCode (C.ret (At.blockRet (At.thenRet (At.thenRet (At.blockRet (At.thenRet ?_)))))))))))
 refine At.ret1 Tryz.results107 rfl ?_
 exact ⟨some i, rfl, ⟨hlt, c16, hE1⟩, hX1.ext hX16⟩
 refine C.skip (At.blockNormal (At.thenCode (C.region ?_)))
 refine W.addI rfl rfl (by omega) rfl ?_
 refine W.move rfl rfl (W.nil ?_)
 refine At.thenRound (i + 1) (sc rfl (sc rfl (sc rfl (sc (look_eq rfl (iV (by omega))) (Sub.nil))))) (show (i + 1) ≤ xs.length ∧ Ext w _ ∧ ∀ h ∈ xs.take (i + 1), r ≤ h.1 from ?_) (show xs.length - (i + 1) < xs.length - i from ?_)
 refine ⟨by omega, hX1.ext hX16, fun h hh => ?_⟩
 rw [List.take_succ_eq_append_getElem hlt] at hh
 rcases List.mem_append.1 hh with hh | hh
 exact hE1 h hh
 obtain rfl := List.mem_singleton.1 hh
 omega
 omega
 obtain rfl : i = xs.length := by omega
 rw [List.take_length] at hE1
 refine C.exit (At.thenExit (At.thenExit (At.blockSelf (At.thenCode (C.seq (C.region (W.assign rfl rfl (W.nil (At.thenCode (C.ret ?_))))))))))
 refine At.ret1 Tryz.results107 rfl ?_
 exact ⟨none, rfl, hE1, hX1⟩
def keepR (r : Int) (xs : List Hd) : List Hd := xs.filter fun h => decide (r ≤ h.1)
theorem keepR_all {r : Int} {xs : List Hd} (h : ∀ x ∈ xs, r ≤ x.1) : keepR r xs = xs := List.filter_eq_self.2 fun x hx => decide_eq_true (h x hx)
theorem keepR_step {r : Int} {xs : List Hd} {j : Nat} (hj : j < xs.length) : keepR r (xs.take (j + 1)) = keepR r (xs.take j) ++ if r ≤ (xs[j]'hj).1 then [xs[j]'hj] else [] := by
 unfold keepR
 rw [List.take_succ_eq_append_getElem hj, List.filter_append]
 congr 1
 by_cases h : r ≤ (xs[j]'hj).1
 rw [if_pos h]; simp [h]
 rw [if_neg h]; simp [h]
theorem keepR_len (r : Int) (xs : List Hd) : (keepR r xs).length ≤ xs.length := List.length_filter_le _ _
theorem DeleteFunc_ok (A : Nat → Prop) (v : Value) (xs : List Hd) (gr : Nat) (r : Int) (w : World) (ho : OwE A w 0 100 2 RHeld v xs) (hr : Bk w gr [.int .i64 r]) (hgr : v.ownBlock ≠ some gr) (hl : xs.length ≤ 9223372036854775807) :
   Ct Tryz.prog 85 #[v, expFn gr] w (fun v' w' => OwE A w' 0 100 2 RHeld v' (keepR r xs) ∧ v'.ownBlock = v.ownBlock ∧ Chg (fun k => v.ownBlock = some k) w w') := by
 obtain ⟨ao, c, rfl, hEl, _⟩ := OwE.form rHeld (OwE.new rHeld ho (B := fun _ => False) (fun _ h => h.elim)) (fun _ _ h => h)
 refine Ct.enter [(0, .slice ao xs.length c), (1, expFn gr)] Tryz.func85 rfl rfl rfl rfl ?_
 have hown0 := ho
 refine C.seq (C.region (W.assign rfl rfl (W.nil (At.thenCode (C.seq (C.region (W.move rfl rfl (W.move rfl rfl ?_))))))))
 refine W.call Tryz.call107 rfl (Mbx.IndexFunc_ok ao c xs gr r _ hEl hr hl) rfl ?_
 rintro v10 w10 ⟨k, rfl, hk, hX10⟩
 refine W.assign rfl rfl (W.nil (At.thenCode (C.seq (C.seq (C.region (W.move rfl rfl (W.eqlI rfl rfl rfl (W.nil (At.thenCode ?_)))))))))
 refine C.condD rfl (fun c12 => ?_) (fun c12 => ?_)
 have hall : ∀ h ∈ xs, r ≤ h.1 := by
   cases k with
   | none => exact hk
   | some i => exact absurd (show (i : Int) = -1 from c12) (by omega)
 refine C.seq (C.region (W.move rfl rfl (W.assign rfl rfl (W.nil (At.thenCode (C.ret (At.thenRet ?_)))))))
 refine At.ret1 Tryz.results85 rfl ?_
 have hkr : keepR r xs = xs := keepR_all hall
 rw [hkr]
 exact ⟨OwE.ext rHeld hown0 hX10, rfl, hX10.mono fun _ c => c.elim⟩
 obtain ⟨i0, rfl⟩ : ∃ i, k = some i := by
   cases k with
   | none => exact absurd rfl c12
   | some i => exact ⟨i, rfl⟩
 obtain ⟨hi0, hdel, hbef⟩ := hk
 obtain ⟨cs0, hcs0, hel0⟩ := ho
 obtain ⟨gb, rfl⟩ : ∃ gb, ao = some ⟨gb, 0, none⟩ := by
   rcases hcs0.2 with ⟨h1, _⟩ | ⟨g, cap, cur, hv, _⟩
   injection h1 with h1 h2; omega
   injection hv with h1; exact ⟨g, h1⟩
 have hX10c : Chg (fun k => k = gb) w w10 := hX10.mono fun _ c => c.elim
 have hcs10 := ownsRow_ext hcs0 hX10
 have hgr' : gr ≠ gb := fun e => hgr (by rw [e]; rfl)
 have hidx : idxI (some i0) = (i0 : Int) := rfl
 have hnc : xs.length ≤ c := hEl.le
 refine C.skip (At.thenCode (C.seq (C.seq (C.region (W.move rfl rfl ?_)))))
 refine W.addI rfl rfl (by omega) rfl ?_
 refine W.assign rfl rfl (W.nil (At.thenCode (C.block ?_)))
 refine C.loop (X := Nat × Nat) (fun x_ => [(0, .slice (some ⟨gb, 0, none⟩) xs.length c), (1, expFn gr), (5, .int .i64 (x_.1 : Int)), (6, .int .i64 (x_.2 : Int))]) (fun x_ w1 => x_.1 < x_.2 ∧ x_.2 ≤ xs.length ∧ Chg (fun k => k = gb) w w1 ∧ (keepR r (xs.take x_.2)).length = x_.1 ∧ ∃ cs : List Value, World.ownsRow w1 0 100 2 (.slice (some ⟨gb, 0, none⟩) xs.length c) xs.length cs ∧ (∀ k h, (keepR r (xs.take x_.2))[k]? = some h → RHeld (fun q => A q ∨ (Value.slice (some ⟨gb, 0, none⟩) xs.length c).ownBlock = some q) w1 ((cs.drop (k * 2)).take 2) h) ∧ (∀ k h, x_.2 ≤ k → xs[k]? = some h → RHeld (fun q => A q ∨ (Value.slice (some ⟨gb, 0, none⟩) xs.length c).ownBlock = some q) w1 ((cs.drop (k * 2)).take 2) h)) (fun x_ => xs.length - x_.2) (i0, i0 + 1) (sc rfl (sc rfl (sc rfl (sc (look_eq rfl (iV (by rw [hidx]; omega))) (Sub.nil))))) ?start1 ?_
 case start1 =>
   show (i0) < (i0 + 1) ∧ (i0 + 1) ≤ xs.length ∧ Chg (fun k => k = gb) w _ ∧ (keepR r (xs.take (i0 + 1))).length = (i0) ∧ ∃ cs : List Value, World.ownsRow _ 0 100 2 (.slice (some ⟨gb, 0, none⟩) xs.length c) xs.length cs ∧ (∀ k h, (keepR r (xs.take (i0 + 1)))[k]? = some h → RHeld (fun q => A q ∨ (Value.slice (some ⟨gb, 0, none⟩) xs.length c).ownBlock = some q) _ ((cs.drop (k * 2)).take 2) h) ∧ (∀ k h, (i0 + 1) ≤ k → xs[k]? = some h → RHeld (fun q => A q ∨ (Value.slice (some ⟨gb, 0, none⟩) xs.length c).ownBlock = some q) _ ((cs.drop (k * 2)).take 2) h)
   have hk0 : keepR r (xs.take (i0 + 1)) = xs.take i0 := by
     rw [keepR_step hi0, keepR_all hbef, if_neg (by omega), List.append_nil]
   refine ⟨by omega, by omega, hX10c, by rw [hk0, List.length_take]; omega, cs0, hcs10, fun k h hh => ?_, fun k h hle hh => ?_⟩
   rw [hk0] at hh
   have hlt : k < xs.length := by have := (List.getElem?_eq_some_iff.1 hh).1; rw [List.length_take] at this; omega
   have h1 : xs[k]'hlt = h := by
     rw [List.getElem?_take] at hh
     split at hh
     rw [List.getElem?_eq_getElem hlt] at hh; exact Option.some.inj hh
     cases hh
   rw [← h1]; exact rHeld.ext (hel0 k hlt) hX10
   obtain ⟨hlt, h1⟩ := List.getElem?_eq_some_iff.1 hh
   rw [← h1]; exact rHeld.ext (hel0 k hlt) hX10
 rintro ⟨i, j⟩ w1 hI_
 replace hI_ : i < j ∧ j ≤ xs.length ∧ Chg (fun k => k = gb) w w1 ∧ (keepR r (xs.take j)).length = i ∧ ∃ cs : List Value, World.ownsRow w1 0 100 2 (.slice (some ⟨gb, 0, none⟩) xs.length c) xs.length cs ∧ (∀ k h, (keepR r (xs.take j))[k]? = some h → RHeld (fun q => A q ∨ (Value.slice (some ⟨gb, 0, none⟩) xs.length c).ownBlock = some q) w1 ((cs.drop (k * 2)).take 2) h) ∧ (∀ k h, j ≤ k → xs[k]? = some h → RHeld (fun q => A q ∨ (Value.slice (some ⟨gb, 0, none⟩) xs.length c).ownBlock = some q) w1 ((cs.drop (k * 2)).take 2) h) := hI_
 obtain ⟨hij, hjn, hC1, hlen1, cs, hcs, hlo, hhi⟩ := hI_
 refine C.weaken (l' := [(0, .slice (some ⟨gb, 0, none⟩) xs.length c), (1, expFn gr), (5, .int .i64 (i : Int)), (6, .int .i64 (j : Int))]) (sc rfl (sc rfl (sc rfl (sc rfl (Sub.nil))))) ?_
 refine C.seq (C.seq (C.region (W.move rfl rfl (W.move rfl rfl (W.lenS rfl Tryz.underlying98 rfl (W.lssI rfl rfl rfl (W.nil (At.thenCode ?_))))))))
 refine C.condD rfl (fun c19 => ?_) (fun c19 => ?_)
 have hjlt : j < xs.length := by omega
 have hcl : cs.length = xs.length * 2 := hcs.1
 obtain ⟨ao_, c_, he_, hSl, _⟩ := ownsRow_form hcs
 injection he_ with e1_ e2_ e3_
 subst e1_; subst e3_
 refine C.skip (At.thenCode (C.seq (C.block (C.seq (C.region (W.move rfl rfl (W.move rfl rfl ?_)))))))
 refine W.indexS (i := (j : Int)) EHeld Tryz.underlying98 rfl hSl rfl ⟨by omega, by omega⟩ rfl ?_
 intro ad24 _ _ hc24
 have hRj := hhi j (xs[j]'hjlt) (Nat.le_refl _) (List.getElem?_eq_getElem hjlt)
 obtain ⟨hcj, hcjE⟩ : ∃ hcj, hcj = (cs.drop (j * 2)).take 2 := ⟨_, rfl⟩
 rw [← hcjE] at hRj
 have hcjl : hcj.length = 2 := by rw [hcjE, List.length_take, List.length_drop, hcl]; omega
 have hc24' : Cells w1 ad24 hcj := by rw [hcjE]; exact hc24.take 2
 refine W.loadA rfl hc24' Tryz.underlying100 rfl (by rw [hcjl]; kernel_rfl) rfl ?_
 refine W.alloc (z := .agg #[.int .i64 0, .slice none 0 0]) [.int .i64 0, .slice none 0 0] (by kernel_rfl) rfl rfl ?_
 intro g7 w7 hg7 hX7 hB7
 refine W.storeA hcj rfl rfl hB7 (by rw [hcjl]; rfl) (by rw [hcjl]; kernel_rfl) (rHeld.one hRj) ?_
 intro w8 hC8 hB8
 have hX8 : Ext w1 w8 := hX7.news hC8 fun k hk => Or.inr (by omega)
 refine W.nil (At.thenCode (C.seq (C.region (W.move rfl rfl ?_))))
 refine W.loadA rfl (hB8.cells (o := 0)) Tryz.underlying100 rfl (by rw [List.drop_zero, hcjl]; kernel_rfl) rfl ?_
 rw [List.drop_zero]
 have hr8 : Bk w8 gr [.int .i64 r] := (hr.chg hC1 hgr').ext hX8
 refine W.callV (caps := [.pointer (some ⟨gr, 0, none⟩)]) Tryz.call86 rfl rfl (Mbx.expire1_ok _ (xs[j]'hjlt) hcj gr r _ (rHeld.ext hRj hX8) hr8) rfl ?_
 rintro v28 w28 ⟨rfl, hX28⟩
 have hX28' : Ext w1 w28 := hX8.ext hX28
 have hcs28 := ownsRow_ext hcs hX28'
 have hC28 : Chg (fun k => k = gb) w w28 := hC1.ext hX28'
 refine W.notD rfl rfl ?_
 refine W.nil (At.thenCode ?_)
 refine C.condD rfl (fun c29 => ?_) (fun c29 => ?_)
 have hkeep : r ≤ (xs[j]'hjlt).1 := by have := c29; simp at this; omega
 refine C.seq (C.region (W.move rfl rfl (W.move rfl rfl ?_)))
 refine W.loadA rfl ((hB8.ext hX28).cells (o := 0)) Tryz.underlying100 rfl (by rw [List.drop_zero, hcjl]; kernel_rfl) rfl ?_
 rw [List.drop_zero]
 have hilt : i < xs.length := by omega
 refine W.indexS (i := (i : Int)) EHeld Tryz.underlying98 rfl (hSl.ext hX28') rfl ⟨by omega, by omega⟩ rfl ?_
 intro ad33 _ had33 _
 obtain rfl : ad33 = ⟨gb, i * 2, none⟩ := by rw [had33 _ rfl, add_mk, Nat.zero_add]; rfl
 refine W.storeOs rfl rfl (rHeld.one hRj) hcs28 (by rw [hcjl]; omega) (by rw [hcjl]; kernel_rfl) ?_
 intro w9 hC9 hcs9
 have hpt : ∀ k, k < xs.length → ((KW.splice cs (i * 2) hcj).drop (k * 2)).take 2 = if k = i then hcj else (cs.drop (k * 2)).take 2 := fun k hk => splice_part hcl hcjl hilt hk
 have hmv : ∀ {cs0 : List Value} {h : Hd}, RHeld (fun q => A q ∨ (Value.slice (some ⟨gb, 0, none⟩) xs.length c).ownBlock = some q) w1 cs0 h → RHeld (fun q => A q ∨ (Value.slice (some ⟨gb, 0, none⟩) xs.length c).ownBlock = some q) w9 cs0 h := fun h0 => rHeld.chg (rHeld.ext h0 hX28') (hC9.mono fun k hk => Or.inr (by subst hk; rfl))
 have hkl := keepR_len r (xs.take j)
 refine W.nil (At.thenCode (C.region (W.move rfl rfl ?_)))
 refine W.addI rfl rfl (by omega) rfl ?_
 refine W.assign rfl rfl (W.nil (At.blockNormal (At.thenCode (C.region (W.move rfl rfl ?_)))))
 refine W.addI rfl rfl (by omega) rfl ?_
 refine W.assign rfl rfl (W.nil ?_)
 have hst : keepR r (xs.take (j + 1)) = keepR r (xs.take j) ++ [xs[j]'hjlt] := by rw [keepR_step hjlt, if_pos hkeep]
 refine At.thenRound (i + 1, j + 1) (sc rfl (sc rfl (sc (look_eq rfl (iV (by omega))) (sc (look_eq rfl (iV (by omega))) (Sub.nil))))) (show (i + 1) < (j + 1) ∧ (j + 1) ≤ xs.length ∧ Chg (fun k => k = gb) w _ ∧ (keepR r (xs.take (j + 1))).length = (i + 1) ∧ ∃ cs : List Value, World.ownsRow _ 0 100 2 (.slice (some ⟨gb, 0, none⟩) xs.length c) xs.length cs ∧ (∀ k h, (keepR r (xs.take (j + 1)))[k]? = some h → RHeld (fun q => A q ∨ (Value.slice (some ⟨gb, 0, none⟩) xs.length c).ownBlock = some q) _ ((cs.drop (k * 2)).take 2) h) ∧ (∀ k h, (j + 1) ≤ k → xs[k]? = some h → RHeld (fun q => A q ∨ (Value.slice (some ⟨gb, 0, none⟩) xs.length c).ownBlock = some q) _ ((cs.drop (k * 2)).take 2) h) from ?_) (show xs.length - (j + 1) < xs.length - j from ?_)
 refine ⟨by omega, by omega, hC28.trans hC9, by rw [hst, List.length_append, hlen1]; rfl, _, hcs9, fun k h hh => ?_, fun k h hle hh => ?_⟩
 rw [hst] at hh
 rcases Nat.lt_or_ge k i with hki | hki
 rw [List.getElem?_append_left (by omega)] at hh
 rw [hpt k (by omega), if_neg (by omega)]
 exact hmv (hlo k h hh)
 rw [List.getElem?_append_right (by omega)] at hh
 have hk0 : k - (keepR r (xs.take j)).length = 0 := by
   rcases Nat.eq_zero_or_pos (k - (keepR r (xs.take j)).length) with h0 | h0
   exact h0
   rw [List.getElem?_eq_none (by simp; omega)] at hh; cases hh
 rw [hk0] at hh
 obtain rfl := Option.some.inj hh
 obtain rfl : k = i := by omega
 rw [hpt k (by omega), if_pos rfl]
 exact hmv hRj
 have hk := (List.getElem?_eq_some_iff.1 hh).1
 rw [hpt k hk, if_neg (by omega)]
 exact hmv (hhi k h (by omega) hh)
 omega
 have hdrop : ¬ r ≤ (xs[j]'hjlt).1 := by have := c29; simp at this; omega
 refine C.skip (At.blockNormal (At.thenCode (C.region (W.move rfl rfl ?_))))
 refine W.addI rfl rfl (by omega) rfl ?_
 refine W.assign rfl rfl (W.nil ?_)
 have hst : keepR r (xs.take (j + 1)) = keepR r (xs.take j) := by rw [keepR_step hjlt, if_neg hdrop, List.append_nil]
 refine At.thenRound (i, j + 1) (sc rfl (sc rfl (sc rfl (sc (look_eq rfl (iV (by omega))) (Sub.nil))))) (show (i) < (j + 1) ∧ (j + 1) ≤ xs.length ∧ Chg (fun k => k = gb) w _ ∧ (keepR r (xs.take (j + 1))).length = (i) ∧ ∃ cs : List Value, World.ownsRow _ 0 100 2 (.slice (some ⟨gb, 0, none⟩) xs.length c) xs.length cs ∧ (∀ k h, (keepR r (xs.take (j + 1)))[k]? = some h → RHeld (fun q => A q ∨ (Value.slice (some ⟨gb, 0, none⟩) xs.length c).ownBlock = some q) _ ((cs.drop (k * 2)).take 2) h) ∧ (∀ k h, (j + 1) ≤ k → xs[k]? = some h → RHeld (fun q => A q ∨ (Value.slice (some ⟨gb, 0, none⟩) xs.length c).ownBlock = some q) _ ((cs.drop (k * 2)).take 2) h) from ?_) (show xs.length - (j + 1) < xs.length - j from ?_)
 refine ⟨by omega, by omega, hC28, by rw [hst]; exact hlen1, _, hcs28, fun k h hh => ?_, fun k h hle hh => rHeld.ext (hhi k h (by omega) hh) hX28'⟩
 rw [hst] at hh
 exact rHeld.ext (hlo k h hh) hX28'
 omega
 obtain rfl : j = xs.length := by omega
 rw [List.take_length] at hlen1 hlo
 have hin : i < xs.length := hij
 refine C.exit (At.thenExit (At.thenExit (At.blockSelf (At.thenCode (C.seq (C.region (W.move rfl rfl (W.move rfl rfl ?_))))))))
 refine W.sliceX (lo := i) (hi := xs.length) EHeld Tryz.underlying98 rfl hnc (.inr ⟨_, .i64, rfl, rfl⟩) (.inl ⟨rfl, rfl⟩) (by omega) (Nat.le_refl _) rfl ?_
 rw [if_neg (by omega), Option.map_some, add_mk, Nat.zero_add]
 refine W.clearO (lo := i) EHeld Tryz.underlying98 (zs := [.int .i64 0, .slice none 0 0]) rfl (by
   intro u hu
   simp only [List.mem_cons, List.not_mem_nil, or_false] at hu
   rcases hu with rfl | rfl <;> rfl) rfl rfl hin hcs ?_
 intro w9 cs9 hC9 hcs9 hsame
 refine W.nil (At.thenCode (C.seq (C.region (W.move rfl rfl (W.move rfl rfl ?_)))))
 refine W.sliceX (lo := 0) (hi := i) EHeld Tryz.underlying98 rfl hnc (.inl ⟨rfl, rfl⟩) (.inr ⟨_, .i64, rfl, rfl⟩) (by omega) (by omega) rfl ?_
 rw [if_neg (by omega), Option.map_some, add_mk, Nat.zero_mul, Nat.add_zero, Nat.sub_zero, Nat.sub_zero]
 refine W.assign rfl rfl (W.nil (At.thenCode (C.ret ?_)))
 refine At.ret1 Tryz.results85 rfl ?_
 refine ⟨⟨cs9.take (i * 2), by rw [hlen1]; exact own_prefix hcs9 (by omega), fun k hk => ?_⟩, rfl, (hC1.trans hC9).mono fun k hk => by subst hk; rfl⟩
 have hki : k < i := by omega
 have hp : ((cs9.take (i * 2)).drop (k * 2)).take 2 = (cs.drop (k * 2)).take 2 := by
   apply List.ext_getElem?
   intro m
   rw [List.getElem?_take, List.getElem?_take]
   split
   rename_i hm
   rw [List.getElem?_drop, List.getElem?_drop, List.getElem?_take, if_pos (by omega), hsame _ (by omega)]
   rfl
 rw [hp]
 exact rHeld.chg (hlo k _ (List.getElem?_eq_getElem hk)) (hC9.mono fun k hk => Or.inr (by subst hk; rfl))
end Go.Proofs.YthiijdbiikljpaaGreat.Mbx
namespace Go.Proofs.YthiijdbiikljpaaGreat.Mbx
open Go Go.RowKit Go.Proofs.YthiijdbiikljpaaGreat.KW Go.Proofs.YthiijdbiikljpaaGreat.Words Go.Proofs.YthiijdbiikljpaaGreat.Sha Go.Proofs.YthiijdbiikljpaaGreat.RSha Go.Proofs.YthiijdbiikljpaaGreat.Grp Go.Proofs.YthiijdbiikljpaaGreat.Cod Go.Proofs.YthiijdbiikljpaaGreat.Disk
set_option linter.unusedVariables false
set_option linter.unusedSimpArgs false
set_option maxRecDepth 100000
theorem filter_lt {α : Type} {p q : α → Bool} : ∀ {l : List α}, (∀ x ∈ l, q x = true → p x = true) → ∀ {a : α}, a ∈ l → p a = true → q a = false → (l.filter q).length < (l.filter p).length := by
 intro l
 induction l with
 | nil => intro _ a ha; simp at ha
 | cons x t ih =>
   intro h a ha hp hq
   have hle : ∀ (t : List α), (∀ x ∈ t, q x = true → p x = true) → (t.filter q).length ≤ (t.filter p).length := by
     intro t ht
     induction t with
     | nil => simp
     | cons y r ihr =>
       have h1 := ihr fun z hz => ht z (by simp [hz])
       have h2 := ht y (by simp)
       by_cases hqy : q y = true
       rw [List.filter_cons_of_pos hqy, List.filter_cons_of_pos (h2 hqy)]; simpa using h1
       rw [List.filter_cons_of_neg hqy]
       by_cases hpy : p y = true
       rw [List.filter_cons_of_pos hpy]; simp; omega
       rw [List.filter_cons_of_neg hpy]; exact h1
   have ht : ∀ z ∈ t, q z = true → p z = true := fun z hz => h z (by simp [hz])
   rcases List.mem_cons.1 ha with rfl | ha
   rw [List.filter_cons_of_neg (by simp [hq]), List.filter_cons_of_pos hp]
   have := hle t ht
   simp; omega
   have h1 := ih ht ha hp hq
   have h2 := h x (by simp)
   by_cases hqx : q x = true
   rw [List.filter_cons_of_pos hqx, List.filter_cons_of_pos (h2 hqx)]; simpa using h1
   rw [List.filter_cons_of_neg hqx]
   by_cases hpx : p x = true
   rw [List.filter_cons_of_pos hpx]; simp; omega
   rw [List.filter_cons_of_neg hpx]; exact h1
theorem has_push (seen : Array Nat) (b x : Nat) : (seen.push b).contains x = (seen.contains x || decide (x = b)) := by
 rw [Bool.eq_iff_iff]
 simp [Array.mem_push]
def roundK : Value → Int
  | .agg cs => (match cs.toList with
    | (.int _ a) :: _ => a
    | _ => 0)
  | _ => 0
def nameK : Value → List UInt8
  | .agg cs => cs.toList.map fun v => match v with
    | .int _ a => UInt8.ofNat a.toNat
    | _ => 0
  | _ => []
theorem nameK_key (k : List UInt8) : nameK (keyV k) = k := by
 unfold keyV nameK
 simp only [List.map_map]
 conv => rhs; rw [← List.map_id k]
 apply List.map_congr_left
 intro b _
 simp [byteV]
def stayE (r : Nat) (e : MapEntry) : Bool := decide ((r : Int) ≤ roundK e.key)
def restE (seen : Array Nat) (r : Nat) (es : List MapEntry) : List MapEntry := es.filter fun e => !seen.contains e.born || stayE r e
def AllSeen (seen : Array Nat) (es : List MapEntry) : Prop := ∀ e ∈ es, seen.contains e.born = true
def leftE (seen : Array Nat) (es : List MapEntry) : List MapEntry := es.filter fun e => !seen.contains e.born
theorem AM.gone {l : List BatD} {es : List MapEntry} (h : es.map (fun e => (e.key, e.val)) = l.map (fun x => (placeV x.round x.chain, Value.bool true))) (r : Nat) : (es.filter (stayE r)).map (fun e => (e.key, e.val)) = (goneL l r).map (fun x => (placeV x.round x.chain, Value.bool true)) := by
 have h1 : (es.filter (stayE r)).map (fun e => (e.key, e.val)) = (es.map (fun e => (e.key, e.val))).filter (fun p => decide ((r : Int) ≤ roundK p.1)) := by
   rw [List.filter_map]; rfl
 rw [h1, h, List.filter_map]
 rfl
def doneB (es : List MapEntry) (seen : Array Nat) (name : List UInt8) : Bool := es.any fun e => decide (nameK e.key = name) && seen.contains e.born
def partF (es : List MapEntry) (seen : Array Nat) (r : Int) (f : Hs) : Hs := fun name => if doneB es seen name = true then keepR r (f name) else f name
theorem LM.congr {w : World} {F Z X : Nat → Prop} {b : Nat} {f f' : Hs} {es : List MapEntry} {clock : Nat} (h : LM w F Z X b f es clock) (he : ∀ name, name.length = 32 → f name = f' name) : LM w F Z X b f' es clock :=
 ⟨h.mp, fun e hm => by obtain ⟨name, n1, n2, n3⟩ := h.sound e hm; exact ⟨name, n1, n2, by rw [← he name n1]; exact n3⟩, fun name n1 n2 => h.whole name n1 (by rw [he name n1]; exact n2), h.rows, h.apart⟩
def stamps (es : List MapEntry) : List (Value × Nat) := es.map fun e => (e.key, e.born)
theorem stamps_set {es : List MapEntry} {j : Nat} {e : MapEntry} (hj : es[j]? = some e) (v : Value) : stamps (es.set j ⟨e.key, v, e.born⟩) = stamps es := by
 obtain ⟨h, rfl⟩ := List.getElem?_eq_some_iff.1 hj
 unfold stamps
 apply List.ext_getElem (by simp)
 intro i h1 h2
 rw [List.getElem_map, List.getElem_map, List.getElem_set]
 split
 rename_i h3; subst h3; rfl
 rfl
theorem stamps_mem {es es' : List MapEntry} (h : stamps es' = stamps es) {e : MapEntry} (he : e ∈ es') : ∃ e0 ∈ es, e0.key = e.key ∧ e0.born = e.born := by
 have h1 : (e.key, e.born) ∈ stamps es := by rw [← h]; exact List.mem_map.2 ⟨e, he, rfl⟩
 obtain ⟨e0, h2, h3⟩ := List.mem_map.1 h1
 injection h3 with h4 h5
 exact ⟨e0, h2, h4, h5⟩
theorem doneB_push {P : Program} {kt : TypeId} {w : World} {b clock : Nat} {es : List MapEntry} {seen : Array Nat} {e0 : MapEntry} {k : List UInt8} (hm : Mp P kt w b es clock) (he : e0 ∈ es) (hk : e0.key = keyV k) (hn : ∀ e ∈ es, ∃ name, e.key = keyV name) :
   (∀ name, doneB es (seen.push e0.born) name = (doneB es seen name || decide (name = k))) ∧ (seen.contains e0.born = false → doneB es seen k = false) := by
 have huq : ∀ e ∈ es, (e.born = e0.born ↔ e = e0) ∧ (nameK e.key = k → e = e0) := by
   intro e hm'
   obtain ⟨i, hi⟩ := List.mem_iff_getElem?.1 hm'
   obtain ⟨j, hj⟩ := List.mem_iff_getElem?.1 he
   refine ⟨⟨fun h => ?_, fun h => by rw [h]⟩, fun h => ?_⟩
   have := hm.uniqB hi hj h
   subst this
   exact Option.some.inj (hi.symm.trans hj)
   obtain ⟨name, hname⟩ := hn e hm'
   rw [hname, nameK_key] at h
   subst h
   have := hm.uniq hi hj (hname.trans hk.symm)
   subst this
   exact Option.some.inj (hi.symm.trans hj)
 refine ⟨fun name => ?_, fun hs => ?_⟩
 unfold doneB
 rw [Bool.eq_iff_iff]
 simp only [List.any_eq_true, Bool.or_eq_true, Bool.and_eq_true, decide_eq_true_eq, has_push]
 constructor
 rintro ⟨e, h1, h2, h3⟩
 rcases h3 with h3 | h3
 exact .inl ⟨e, h1, h2, h3⟩
 have := (huq e h1).1.1 h3
 subst this
 rw [hk, nameK_key] at h2
 exact .inr h2.symm
 rintro (⟨e, h1, h2, h3⟩ | rfl)
 exact ⟨e, h1, h2, .inl h3⟩
 exact ⟨e0, he, by rw [hk, nameK_key], .inr rfl⟩
 unfold doneB
 rw [Bool.eq_false_iff]
 intro h
 obtain ⟨e, h1, h2⟩ := List.any_eq_true.1 h
 simp only [Bool.and_eq_true, decide_eq_true_eq] at h2
 have := (huq e h1).2 h2.1
 subst this
 rw [hs] at h2
 cases h2.2
theorem expire_ok (F : Nat → Prop) (g dg : Nat) (s : Bag) (o : Option Nat) (r : Nat) (w : World) (hS : St w F g dg s o) (hr : r ≤ 1099511627776) (hsl : s.l.length ≤ 1000000000) :
   Ct Tryz.prog 45 #[.pointer (some ⟨g, 0, none⟩), .int .i64 (r : Int)] w (fun v w' => ∃ F' : Nat → Prop, St w' F' g dg (goneS s r) o ∧ (∀ k, F k → F' k) ∧ (∀ k, F' k → F k ∨ w.heap.size ≤ k) ∧ Chg F w w') := by
 obtain ⟨mg, lg, X, es1, c1, es2, c2, h1, h2, h3, h4, h5⟩ := hS.out
 have hlt := hS.lt
 have hgF := hS.own
 have hmF : F mg := h4.zf _ (.inr (.inl rfl))
 have hlF : F lg := h4.zf _ (.inr (.inr rfl))
 have hZl : Zof g mg lg lg := .inr (.inr rfl)
 have hZm : Zof g mg lg mg := .inr (.inl rfl)
 have hZg : Zof g mg lg g := .inl rfl
 have hold : ∀ name, (heldL s.l name).length ≤ 1000000000000 := fun name => by
   have := heldL_len (l := s.l) (m := 1000) (fun y hy => (batE_small (hS.ok.1 y hy).2).2.1) name
   omega
 refine Ct.enter [(0, .pointer (some ⟨g, 0, none⟩)), (1, .int .i64 (r : Int))] Tryz.func45 rfl rfl rfl rfl ?_
 refine C.seq (C.region ?_)
 refine W.box [.int .i64 (r : Int)] rfl rfl rfl ?_
 intro g3 w3 hg3 hX3 hB3
 have h1b : Bk w3 g [.pointer (some ⟨dg, 0, none⟩), .map (some mg), .map (some lg), .int .i64 (s.past : Int), .int .i64 (owedI o)] := h1.ext hX3
 refine W.nil (At.thenCode (C.seq (C.seq ?_)))
 refine C.regionAny 6 (E_ (.int .i64 (r : Int)) :: E_ (.pointer (some ⟨g, 0, none⟩)) :: E_ (.pointer (some ⟨g, 0, none⟩)) :: E_ (.pointer (some ⟨g, 3, none⟩)) :: E_ (.int .i64 (s.past : Int)) :: E_ (.bool (decide ((r : Int) ≤ (s.past : Int)))) :: []) [(0, .pointer (some ⟨g, 0, none⟩)), (3, .pointer (some ⟨g3, 0, none⟩))] [] (sc rfl (sc rfl (Sub.nil))) (Sub.nil) (sc rfl (sc rfl (Sub.nil))) (by kernel_rfl) rfl rfl rfl (sN (sN (sN (sN (sN (sN (trivial))))))) ?_ ?_
 refine And.intro ?_ ?_
 intro L_ wr hX_ hs_ hf_ hd_
 refine W.s1 (hs_ 3 _ rfl) ?_
 refine W.loadB (v := .int .i64 (r : Int)) rfl Tryz.underlying3 rfl (hB3.ext hX_) rfl rfl ?_
 exact W.e0 rfl
 refine And.intro (mB rfl rfl (fun _ => rfl) rfl) ?_
 refine And.intro ?_ ?_
 intro L_ wr hX_ hs_ hf_ hd_
 obtain ⟨_, e1, rfl⟩ := hd_ 1 rfl
 exact W.s1 (e1 _ rfl) (W.nilCheck rfl rfl (W.e0 rfl))
 refine And.intro ?_ ?_
 intro L_ wr hX_ hs_ hf_ hd_
 obtain ⟨_, e2, rfl⟩ := hd_ 2 rfl
 exact W.s1 (e2 _ rfl) (W.fieldB (off := 3) (size := 1) (t := 3) (Fld.of (by kernel_rfl)) rfl rfl rfl (W.e0 rfl))
 refine And.intro ?_ ?_
 intro L_ wr hX_ hs_ hf_ hd_
 obtain ⟨_, e3, rfl⟩ := hd_ 3 rfl
 refine W.s1 (e3 _ rfl) ?_
 refine W.loadB (v := .int .i64 (s.past : Int)) rfl Tryz.underlying3 rfl (h1b.ext hX_) rfl rfl ?_
 exact W.e0 rfl
 refine And.intro ?_ ?_
 intro L_ wr hX_ hs_ hf_ hd_
 obtain ⟨_, e0, rfl⟩ := hd_ 0 rfl
 obtain ⟨_, e4, rfl⟩ := hd_ 4 rfl
 exact W.s2 (e0 _ rfl) (e4 _ rfl) (W.leqI rfl rfl rfl (W.e0 rfl))
 exact trivial
 intro L_ wr hX1 hs_ hv_
 obtain ⟨_, e5, rfl⟩ := hv_ 5 (by decide)
 refine W.weaken (l' := [(12, _), (0, _), (3, _)]) (sc (e5 _ rfl) (sc (hs_ _ _ rfl) (sc (hs_ _ _ rfl) (Sub.nil)))) ?_
 refine W.nil (At.thenCode ?_)
 refine C.condD rfl (fun c12 => ?_) (fun c12 => ?_)
 refine C.ret (At.thenRet ?_)
 refine At.ret0 Tryz.results45 ?_
 have hgs : goneS s r = s := by unfold goneS; rw [if_pos (by omega)]
 rw [hgs]
 exact ⟨F, hS.ext (hX3.ext hX1), fun k hk => hk, fun k hk => .inl hk, (hX3.ext hX1).mono fun _ c => c.elim⟩
 have hpast : s.past < r := by omega
 have hX1' := hX3.ext hX1
 have hB3a := hB3.ext hX1
 have h1c : Bk wr g [.pointer (some ⟨dg, 0, none⟩), .map (some mg), .map (some lg), .int .i64 (s.past : Int), .int .i64 (owedI o)] := h1b.ext hX1
 have hlt3 := hB3a.lt
 refine C.skip (At.thenCode (C.seq (C.region (W.move rfl rfl ?_))))
 refine W.loadB (v := .int .i64 (r : Int)) rfl Tryz.underlying3 rfl hB3a rfl rfl ?_
 refine W.nilCheck rfl rfl (W.fieldB (off := 3) (size := 1) (t := 3) (Fld.of (by kernel_rfl)) rfl rfl rfl ?_)
 refine W.store1 rfl rfl rfl h1c (by simp) (by kernel_rfl) ?_
 intro w4 hC4 hB4
 have hB4 : Bk w4 g [.pointer (some ⟨dg, 0, none⟩), .map (some mg), .map (some lg), .int .i64 (r : Int), .int .i64 (owedI o)] := hB4
 have hs4 := hC4.size
 have hg3F : ¬ F g3 := fun hF => by have := hlt _ hF; omega
 have hB3b : Bk w4 g3 [.int .i64 (r : Int)] := hB3a.chg hC4 (fun e => hg3F (by rw [e]; exact hgF))
 have hC4w : Chg F w w4 := (hX1'.mono fun _ c => c.elim).trans (hC4.mono fun k hk => by subst hk; exact hgF)
 have hA4 : AM w4 mg s.l es1 c1 := (h2.chg hX1' (fun c => c)).chg hC4 h5.1.symm
 have hL4 : LM w4 F (Zof g mg lg) X lg (heldL s.l) es2 c2 := (h3.keep h4 hX1' (fun _ c => c.elim) (fun c => c)).keep (h4.mono hX1'.size) hC4 (fun k hk => .inl (by subst hk; exact hZg)) h5.2.1.symm
 have hS4 := h4.mono hC4w.size
 refine W.nil (At.thenCode (C.seq (C.seq (C.region (W.move rfl rfl (W.nilCheck rfl rfl (W.fieldB (off := 1) (size := 1) (t := 65) (Fld.of (by kernel_rfl)) rfl rfl rfl ?_)))))))
 refine W.loadB (v := .map (some mg)) rfl Tryz.underlying65 rfl hB4 rfl rfl ?_
 refine W.rangeM Tryz.underlying65 rfl hA4.mp rfl ?_
 intro r1 w5 hr1 hX5 hI5
 have hs5 := hX5.size
 have hgB5 := hB4.ext hX5
 have hB3c := hB3b.ext hX5
 have hr1F : ¬ F r1 := fun hF => by have := hS4.lt _ hF; omega
 have hr1g3 : r1 ≠ g3 := fun e => by have := hB3b.lt; omega
 have hr1lt := hI5.lt
 refine W.nil (At.thenCode (C.block ?_))
 refine C.loop (X := (Array Nat) × Nat) (fun x_ => [(0, .pointer (some ⟨g, 0, none⟩)), (3, .pointer (some ⟨g3, 0, none⟩)), (21, .pointer (some ⟨r1, 0, none⟩))]) (fun x_ w1 => Chg (fun k => k = mg ∨ k = r1) w5 w1 ∧ Mp Tryz.prog 125 w1 mg (restE x_.1 r es1) c1 ∧ It w1 r1 mg c1 x_.1 x_.2) (fun x_ => (leftE x_.1 es1).length) (#[], c1) (sc rfl (sc rfl (sc rfl (Sub.nil)))) ?start1 ?_
 case start1 =>
   show Chg (fun k => k = mg ∨ k = r1) w5 _ ∧ Mp Tryz.prog 125 _ mg (restE (#[]) r es1) c1 ∧ It _ r1 mg c1 (#[]) (c1)
   refine ⟨Chg.refl _ _, ?_, hI5⟩
   have : restE #[] r es1 = es1 := List.filter_eq_self.2 fun e _ => by simp
   rw [this]; exact hA4.mp.ext hX5
 rintro ⟨seen, cc⟩ w1 hI_
 replace hI_ : Chg (fun k => k = mg ∨ k = r1) w5 w1 ∧ Mp Tryz.prog 125 w1 mg (restE seen r es1) c1 ∧ It w1 r1 mg c1 seen cc := hI_
 obtain ⟨hC1, hM1, hI1⟩ := hI_
 refine C.weaken (l' := [(0, .pointer (some ⟨g, 0, none⟩)), (3, .pointer (some ⟨g3, 0, none⟩)), (21, .pointer (some ⟨r1, 0, none⟩))]) (sc rfl (sc rfl (sc rfl (Sub.nil)))) ?_
 have hs1 := hC1.size
 have hg1 := hgB5.chg hC1 (by rintro (h | h); exact h5.1 h; exact hr1F (by rw [← h]; exact hgF))
 have hB31 := hB3c.chg hC1 (by rintro (h | h); exact hg3F (by rw [h]; exact hmF); exact hr1g3 h.symm)
 refine C.seq ?_
 by_cases hdone : AllSeen seen (restE seen r es1)
 refine C.region ?_
 refine W.nextM rfl hI1 hM1 rfl (fun _ => ?_) (fun j e w' hj hs _ _ => absurd (hdone e (List.mem_of_getElem? hj)) (by rw [hs]; decide))
 have hE1 : restE seen r es1 = es1.filter (stayE r) := by
   unfold restE
   apply List.filter_congr
   intro x hx
   cases hsx : seen.contains x.born with
   | true => simp
   | false =>
     have hin : x ∈ restE seen r es1 := List.mem_filter.2 ⟨hx, by rw [hsx]; rfl⟩
     rw [hdone x hin] at hsx
     cases hsx
 have hA1 : AM w1 mg (goneL s.l r) (es1.filter (stayE r)) c1 := ⟨by rw [← hE1]; exact hM1, AM.gone hA4.are r⟩
 have hlr1 : lg ≠ r1 := fun e => hr1F (by rw [← e]; exact hlF)
 have hL1 : LM w1 F (Zof g mg lg) X lg (heldL s.l) es2 c2 := (hL4.keep hS4 hX5 (fun _ c => c.elim) (fun c => c)).keep (hS4.mono hs5) hC1 (fun k hk => hk.elim (fun e => .inl (by subst e; exact hZm)) (fun e => .inr (by subst e; exact hr1F))) (by rintro (h | h); exact h5.2.2 h.symm; exact hlr1 h)
 have hSt1 := hS4.mono (Nat.le_trans hs5 hs1)
 refine W.extract rfl rfl rfl (W.nil (At.thenCode (C.seq ?_)))
 refine C.condF rfl ?_
 refine C.exit (At.thenExit (At.thenExit (At.blockSelf (At.thenCode (C.seq (C.region (W.move rfl rfl (W.nilCheck rfl rfl (W.fieldB (off := 2) (size := 1) (t := 66) (Fld.of (by kernel_rfl)) rfl rfl rfl ?_)))))))))
 refine W.loadB (v := .map (some lg)) rfl Tryz.underlying66 rfl hg1 rfl rfl ?_
 refine W.rangeM Tryz.underlying66 rfl hL1.mp rfl ?_
 intro r2 w9 hr2 hX9 hI9
 have hs9 := hX9.size
 have hr2lt := hI9.lt
 have hr2F : ¬ F r2 := fun hF => by have := hSt1.lt _ hF; omega
 have hr2g3 : g3 ≠ r2 := fun e => by have := hB31.lt; omega
 have hB39 := hB31.ext hX9
 refine W.nil (At.thenCode (C.block ?_))
 refine C.loop (X := (Array Nat) × Nat) (fun x_ => [(0, .pointer (some ⟨g, 0, none⟩)), (3, .pointer (some ⟨g3, 0, none⟩)), (39, .pointer (some ⟨r2, 0, none⟩))]) (fun x_ wb => ∃ (F1 X1 : Nat → Prop) (E : List MapEntry), (∀ k, F k → F1 k) ∧ (∀ k, F1 k → F k ∨ w9.heap.size ≤ k) ∧ Chg (fun k => F k ∨ k = r2) w9 wb ∧ Bk wb g (stC dg mg lg r o) ∧ AM wb mg (goneL s.l r) (es1.filter (stayE r)) c1 ∧ LM wb F1 (Zof g mg lg) X1 lg (partF es2 x_.1 r (heldL s.l)) E c2 ∧ Sets wb F1 (Zof g mg lg) X1 ∧ It wb r2 lg c2 x_.1 x_.2 ∧ stamps E = stamps es2) (fun x_ => (leftE x_.1 es2).length) (#[], c2) (sc rfl (sc rfl (sc rfl (Sub.nil)))) ?start2 ?_
 case start2 =>
   show ∃ (F1 X1 : Nat → Prop) (E : List MapEntry), (∀ k, F k → F1 k) ∧ (∀ k, F1 k → F k ∨ w9.heap.size ≤ k) ∧ Chg (fun k => F k ∨ k = r2) w9 _ ∧ Bk _ g (stC dg mg lg r o) ∧ AM _ mg (goneL s.l r) (es1.filter (stayE r)) c1 ∧ LM _ F1 (Zof g mg lg) X1 lg (partF es2 (#[]) r (heldL s.l)) E c2 ∧ Sets _ F1 (Zof g mg lg) X1 ∧ It _ r2 lg c2 (#[]) (c2) ∧ stamps E = stamps es2
   refine ⟨F, X, es2, fun k hk => hk, fun k hk => .inl hk, Chg.refl _ _, hg1.ext hX9, hA1.chg hX9 (fun c => c), ?_, hSt1.mono hs9, hI9, rfl⟩
   have : partF es2 #[] r (heldL s.l) = heldL s.l := by
     funext name
     unfold partF
     rw [if_neg]
     unfold doneB
     simp
   rw [this]
   exact hL1.keep hSt1 hX9 (fun _ c => c.elim) (fun c => c)
 rintro ⟨seen2, cc2⟩ wb hI_
 replace hI_ : ∃ (F1 X1 : Nat → Prop) (E : List MapEntry), (∀ k, F k → F1 k) ∧ (∀ k, F1 k → F k ∨ w9.heap.size ≤ k) ∧ Chg (fun k => F k ∨ k = r2) w9 wb ∧ Bk wb g (stC dg mg lg r o) ∧ AM wb mg (goneL s.l r) (es1.filter (stayE r)) c1 ∧ LM wb F1 (Zof g mg lg) X1 lg (partF es2 seen2 r (heldL s.l)) E c2 ∧ Sets wb F1 (Zof g mg lg) X1 ∧ It wb r2 lg c2 seen2 cc2 ∧ stamps E = stamps es2 := hI_
 obtain ⟨F1, X1, E, hF1, hF1', hCb, hgb, hAb, hLb, hStb, hIb, hEs⟩ := hI_
 refine C.weaken (l' := [(0, .pointer (some ⟨g, 0, none⟩)), (3, .pointer (some ⟨g3, 0, none⟩)), (39, .pointer (some ⟨r2, 0, none⟩))]) (sc rfl (sc rfl (sc rfl (Sub.nil)))) ?_
 have hsb := hCb.size
 have hr2F1 : ¬ F1 r2 := fun hF => by
   rcases hF1' _ hF with h | h
   exact hr2F h
   omega
 have hg3F1 : ¬ F1 g3 := fun hF => by
   rcases hF1' _ hF with h | h
   exact hg3F h
   have := hB31.lt; omega
 have hB3b2 := hB39.chg hCb (by rintro (h | h); exact hg3F h; exact hr2g3 h)
 have hnames : ∀ e ∈ es2, ∃ name, e.key = keyV name := fun e he => by obtain ⟨name, _, h, _⟩ := h3.sound e he; exact ⟨name, h⟩
 refine C.seq ?_
 by_cases hdone2 : AllSeen seen2 E
 refine C.region ?_
 refine W.nextM rfl hIb hLb.mp rfl (fun _ => ?_) (fun j e w' hj hs _ _ => absurd (hdone2 e (List.mem_of_getElem? hj)) (by rw [hs]; decide))
 refine W.extract rfl rfl rfl (W.nil (At.thenCode (C.seq ?_)))
 refine C.condF rfl ?_
 refine C.exit (At.thenExit (At.thenExit (At.blockSelf ?_)))
 refine At.end0 Tryz.results45 ?_
 have hgs : goneS s r = ⟨goneL s.l r, r⟩ := by unfold goneS; rw [if_neg (by omega)]
 have hfin : LM wb F1 (Zof g mg lg) X1 lg (heldL (goneL s.l r)) E c2 := hLb.congr fun name hn => by
   rw [heldL_gone]
   show partF es2 seen2 r (heldL s.l) name = keepR r (heldL s.l name)
   by_cases hex : ∃ e ∈ E, e.key = keyV name
   obtain ⟨e, he, hk⟩ := hex
   obtain ⟨en, hen, hen1, hen2⟩ := stamps_mem hEs he
   have hd : doneB es2 seen2 name = true := List.any_eq_true.2 ⟨en, hen, by rw [hen1, hk, nameK_key, hen2, hdone2 e he]; simp⟩
   unfold partF
   rw [if_pos hd]
   have hnil : partF es2 seen2 r (heldL s.l) name = [] := by
     rcases Classical.em (partF es2 seen2 r (heldL s.l) name = []) with h | h
     exact h
     exact absurd (hLb.whole name hn h) hex
   rw [hnil]
   unfold partF at hnil
   split at hnil
   exact hnil.symm
   rw [hnil]; rfl
 rw [hgs]
 refine ⟨F1, ⟨⟨mg, lg, X1, _, _, E, c2, hgb, hAb, hfin, hStb, h5⟩, hF1 _ hgF, hStb.lt, ⟨fun x hx => hS.ok.1 x (List.mem_filter.1 hx).1, hr, hS.ok.2.2⟩⟩, hF1, fun k hk => (hF1' k hk).imp id fun h => by have := hC4w.size; omega, ?_⟩
 have q1 : Chg F w w5 := hC4w.ext hX5
 have q2 : Chg F w w1 := q1.news hC1 fun k hk => by
   rcases hk with rfl | rfl
   exact .inl hmF
   exact .inr (by have := hC4w.size; omega)
 exact (q2.ext hX9).news hCb fun k hk => by
   rcases hk with hk | rfl
   exact .inl hk
   exact .inr (by have := q2.size; omega)
 refine C.region ?_
 refine W.nextM rfl hIb hLb.mp rfl (fun hall => absurd hall hdone2) ?_
 intro j e w10 hj hse hC10 hI10
 have hem := List.mem_of_getElem? hj
 obtain ⟨k, hkl, hkey, _⟩ := hLb.sound e hem
 have hs10 := hC10.size
 have hlr2 : lg ≠ r2 := fun e => hr2F1 (by rw [← e]; exact hF1 _ hlF)
 have hL10 := hLb.keep hStb hC10 (fun k hk => .inr (by subst hk; exact hr2F1)) hlr2
 have hSt10 := hStb.mono hs10
 have hg10 := hgb.chg hC10 (fun e => hr2F1 (by rw [← e]; exact hF1 _ hgF))
 have hA10 := hAb.chg hC10 (fun e => hr2F1 (by rw [← e]; exact hF1 _ hmF))
 have hB310 := hB3b2.chg hC10 hr2g3
 refine W.extract rfl rfl rfl (W.nil (At.thenCode (C.seq ?_)))
 refine C.condT rfl ?_
 refine C.skip (At.thenCode (C.block (C.seq (C.region ?_))))
 refine W.entryM rfl hI10 hL10.mp hj rfl ?_
 rw [hkey]
 refine W.extract rfl rfl rfl (W.extract rfl rfl rfl ?_)
 refine W.alloc (z := .agg (List.replicate 32 (byteV 0)).toArray) (List.replicate 32 (byteV 0)) (by kernel_rfl) rfl rfl ?_
 intro g5 w11 hg5 hX11 hB11
 refine W.storeA (k.map byteV) rfl rfl hB11 (by rw [List.length_map, hkl]; rfl) (by rw [List.length_map, hkl]; kernel_rfl) (bytes_oneCell _) ?_
 intro w12 hC12 hB12
 have hX12 : Ext w10 w12 := hX11.news hC12 fun k hk => Or.inr (by omega)
 have hs12 := hX12.size
 have hL12 := hL10.keep hSt10 hX12 (fun _ c => c.elim) (fun c => c)
 have hSt12 := hSt10.mono hs12
 have hg12 := hg10.ext hX12
 have hg12' : Bk w12 g [.pointer (some ⟨dg, 0, none⟩), .map (some mg), .map (some lg), .int .i64 (r : Int), .int .i64 (owedI o)] := hg12
 have hA12 := hA10.chg hX12 (fun c => c)
 have hB312 := hB310.ext hX12
 have hI12 := hI10.chg hX12 (fun c => c)
 have hF1lt := hSt12.lt
 have hg5F1 : ¬ F1 g5 := fun hF => by have := hSt10.lt _ hF; omega
 obtain ⟨lk, hlk⟩ := keyK hkl
 have hp : Pre E c2 (keyV k) (.slice none 0 0) E c2 j e := ⟨hkey, hj, .inr ⟨rfl, rfl⟩⟩
 obtain ⟨hrow, hrown⟩ := LM.at hL12 hkl hp
 obtain ⟨en, hen, hen1, hen2⟩ := stamps_mem hEs hem
 obtain ⟨hdp, hdn⟩ := doneB_push (seen := seen2) h3.mp hen (hen1.trans hkey) hnames
 have hnd : doneB es2 seen2 k = false := hdn (by rw [hen2]; exact hse)
 have hpk : partF es2 seen2 r (heldL s.l) k = heldL s.l k := by unfold partF; rw [if_neg (by rw [hnd]; decide)]
 rw [hpk] at hrow
 have hpn : ∀ name, partF es2 (seen2.push e.born) r (heldL s.l) name = if name = k then keepR r (heldL s.l k) else partF es2 seen2 r (heldL s.l) name := fun name => by
   unfold partF
   rw [← hen2, hdp]
   by_cases hnk : name = k
   subst hnk
   rw [if_pos rfl, if_pos (by simp)]
   rw [if_neg hnk]
   simp [hnk]
 refine W.assign rfl rfl (W.nil (At.thenCode ?_))
 refine C.regionAnyB (fun q b => q = 7 ∧ e.val.ownBlock = some b) 8 (E_ (.pointer (some ⟨g, 0, none⟩)) :: E_ (.pointer (some ⟨g, 0, none⟩)) :: E_ (.pointer (some ⟨g, 2, none⟩)) :: E_ (.map (some lg)) :: E_ (keyV k) :: E_ (e.val) :: E_ (expFn g3) :: (fun v w => OwE (fun q => X1 q ∧ q < w12.heap.size) w 0 100 2 RHeld v (keepR r (heldL s.l k)) ∧ v.ownBlock = e.val.ownBlock) :: []) [(0, .pointer (some ⟨g, 0, none⟩)), (3, .pointer (some ⟨g3, 0, none⟩)), (5, .pointer (some ⟨g5, 0, none⟩)), (6, e.val), (39, .pointer (some ⟨r2, 0, none⟩))] [] (sc rfl (sc rfl (sc rfl (sc rfl (sc rfl (Sub.nil)))))) (Sub.nil) (sc rfl (sc rfl (sc rfl (sc rfl (sc rfl (Sub.nil)))))) (by kernel_rfl) rfl rfl rfl (sN (sN (sN (sN (sN (sN (sN (sM (fun _ _ _ h g => ⟨OwE.ext rHeld h.1 (FamPost.ext g (by rintro q b q1 q2 ⟨rfl, _⟩; exact q1 rfl)), h.2⟩) (trivial))))))))) ?_ ?_
 refine And.intro ?_ ?_
 intro L_ wr hX_ hs_ hf_ hd_
 exact W.s1 (hs_ 0 _ rfl) (W.move rfl rfl (W.eF rfl))
 refine And.intro ?_ ?_
 intro L_ wr hX_ hs_ hf_ hd_
 obtain ⟨_, e0, rfl⟩ := hd_ 0 rfl
 exact W.s1 (e0 _ rfl) (W.nilCheck rfl rfl (W.eF rfl))
 refine And.intro ?_ ?_
 intro L_ wr hX_ hs_ hf_ hd_
 obtain ⟨_, e1, rfl⟩ := hd_ 1 rfl
 exact W.s1 (e1 _ rfl) (W.fieldB (off := 2) (size := 1) (t := 66) (Fld.of (by kernel_rfl)) rfl rfl rfl (W.eF rfl))
 refine And.intro ?_ ?_
 intro L_ wr hX_ hs_ hf_ hd_
 obtain ⟨_, e2, rfl⟩ := hd_ 2 rfl
 refine W.s1 (e2 _ rfl) ?_
 refine W.loadB (v := .map (some lg)) rfl Tryz.underlying66 rfl (hg12'.chg hX_ (by rintro ⟨_, _, _, _, q⟩; exact (hrown _ q).2.2 hZg)) rfl rfl ?_
 exact W.eF rfl
 refine And.intro ?_ ?_
 intro L_ wr hX_ hs_ hf_ hd_
 refine W.s1 (hs_ 5 _ rfl) ?_
 refine W.loadA rfl ((hB12.chg hX_ (by rintro ⟨_, _, _, _, q⟩; exact hg5F1 (hrown _ q).1)).cells (o := 0)) Tryz.underlying43 rfl (by rw [List.drop_zero, List.length_map, hkl]; kernel_rfl) rfl ?_
 rw [List.drop_zero]
 exact W.eF rfl
 refine And.intro ?_ ?_
 intro L_ wr hX_ hs_ hf_ hd_
 exact W.s1 (hs_ 6 _ rfl) (W.move rfl rfl (W.eF rfl))
 refine And.intro ?_ ?_
 intro L_ wr hX_ hs_ hf_ hd_
 refine W.s1 (hs_ 3 _ rfl) ?_
 refine W.makeFunc (caps := [.pointer (some ⟨g3, 0, none⟩)]) rfl rfl ?_
 exact W.eF rfl
 refine And.intro ?_ ?_
 intro L_ wr hX_ hs_ hf_ hd_
 obtain ⟨_, e5, rfl⟩ := hd_ 5 rfl
 obtain ⟨_, e6, rfl⟩ := hd_ 6 rfl
 refine W.s2 (e5 _ rfl) (e6 _ rfl) ?_
 have hXr : Ext w12 wr := FamPre.ext hX_ (by rintro q b q1 q2 ⟨rfl, _⟩; exact q1 rfl)
 have hro : OwE (fun q => X1 q ∧ q < w12.heap.size) wr 0 100 2 RHeld e.val (heldL s.l k) := OwE.new rHeld (OwE.ext rHeld hrow hXr) fun q hq _ => .inl hq.1
 refine W.call Tryz.call85 rfl (Mbx.DeleteFunc_ok _ e.val (heldL s.l k) g3 r _ hro (hB312.ext hXr) (fun hq => hg3F1 (hrown _ hq).1) (by have := hold k; omega)) rfl ?_
 rintro v52 w52 ⟨ho52, hv52, hC52⟩
 refine W.nil ?_
 exact At.stepF (Fam.of 7 (hC52.mono fun b hb => ⟨rfl, hb⟩)) ⟨ho52, hv52⟩
 exact trivial
 intro L_ wr hX11 hs_ hv_
 obtain ⟨_, e3, rfl⟩ := hv_ 3 (by decide)
 obtain ⟨_, e4, rfl⟩ := hv_ 4 (by decide)
 obtain ⟨v7, e7, r7⟩ := hv_ 7 (by decide)
 refine W.weaken (l' := [(48, _), (49, _), (52, _), (0, _), (3, _), (5, _), (6, _), (39, _)]) (sc (e3 _ rfl) (sc (e4 _ rfl) (sc (e7 _ rfl) (sc (hs_ _ _ rfl) (sc (hs_ _ _ rfl) (sc (hs_ _ _ rfl) (sc (hs_ _ _ rfl) (sc (hs_ _ _ rfl) (Sub.nil))))))))) ?_
 have hC11 : Chg (fun b => e.val.ownBlock = some b) w12 wr := Chg.mono hX11 (by rintro b ⟨q, _, q1⟩; exact q1)
 have hM11 : Mp Tryz.prog 43 wr lg E c2 := hL12.mp.chg hC11 (fun hq => (hrown _ hq).2.2 hZl)
 refine W.updateM lawK Tryz.underlying66 rfl rfl rfl hM11 hlk ?_
 intro E' c' wz hCz hMz hdz
 obtain ⟨rfl, hcc⟩ : E' = E.set j ⟨keyV k, v7, e.born⟩ ∧ c' = c2 := by
   rcases hdz with ⟨hno, _⟩ | ⟨j', e', hj', hk', h6, h7⟩
   exact absurd hkey (hno e hem)
   have := hM11.uniq hj' hj (hk'.trans hkey.symm)
   subst this
   have := Option.some.inj (hj'.symm.trans hj)
   subst this
   exact ⟨h6, h7⟩
 rw [hcc] at hMz
 obtain ⟨ho7, hv7⟩ := r7
 have hCall : Chg (fun q => q = lg ∨ e.val.ownBlock = some q) w12 wz := (hC11.mono fun b hb => .inr hb).trans (hCz.mono fun b hb => .inl hb)
 have hoz : OwE (fun q => X1 q ∧ q < w12.heap.size) wz 0 100 2 RHeld v7 (partF es2 (seen2.push e.born) r (heldL s.l) k) := by
   rw [hpn, if_pos rfl]
   exact OwE.chgS rHeld ho7 hCz (fun q hq => by subst hq; exact ⟨hSt12.zx _ hZl, hF1lt _ (hF1 _ hlF)⟩) (fun q hq hql => by subst hql; rw [hv7] at hq; exact (hrown _ hq).2.2 hZl)
 obtain ⟨X', hLz, hSz⟩ := LM.put (f' := partF es2 (seen2.push e.born) r (heldL s.l)) hL12 hSt12 hZl hkl hp hMz hCall hoz (.inl hv7) (fun name hne => by rw [hpn, if_neg hne])
 have hgz : Bk wz g (stC dg mg lg r o) := hg12.chg hCall (by
   rintro (h | h)
   exact h5.2.1 h
   exact (hrown _ h).2.2 hZg)
 have hAz := hA12.chg hCall (by
   rintro (h | h)
   exact h5.2.2 h
   exact (hrown _ h).2.2 hZm)
 have hIz := hI12.chg hCall (by
   rintro (h | h)
   exact hlr2 h.symm
   exact hr2F1 (hrown _ h).1)
 refine W.nil (At.blockNormal ?_)
 refine At.thenRound (seen2.push e.born, c2) (sc rfl (sc rfl (sc rfl (Sub.nil)))) (show ∃ (F1 X1 : Nat → Prop) (E : List MapEntry), (∀ k, F k → F1 k) ∧ (∀ k, F1 k → F k ∨ w9.heap.size ≤ k) ∧ Chg (fun k => F k ∨ k = r2) w9 _ ∧ Bk _ g (stC dg mg lg r o) ∧ AM _ mg (goneL s.l r) (es1.filter (stayE r)) c1 ∧ LM _ F1 (Zof g mg lg) X1 lg (partF es2 (seen2.push e.born) r (heldL s.l)) E c2 ∧ Sets _ F1 (Zof g mg lg) X1 ∧ It _ r2 lg c2 (seen2.push e.born) (c2) ∧ stamps E = stamps es2 from ?_) (show (leftE (seen2.push e.born) es2).length < (leftE seen2 es2).length from ?_)
 refine ⟨Grown F1 w12 wz, X', _, fun k hk => .inl (hF1 k hk), fun k hk => ?_, ?_, hgz, hAz, hLz, hSz, hIz, ?_⟩
 rcases hk with hk | hk
 exact hF1' k hk
 exact .inr (by omega)
 refine hCb.news ((hC10.mono fun k hk => .inr (.inl hk)).trans ((hX12.mono fun _ c => c.elim).trans (hCall.mono fun k hk => (?_ : (F k ∨ w9.heap.size ≤ k) ∨ k = r2 ∨ False)))) fun k hk => ?_
 rcases hk with rfl | hk
 exact .inl (.inl hlF)
 exact .inl (hF1' _ (hrown _ hk).1)
 rcases hk with (hk | hk) | hk | hk
 exact .inl (.inl hk)
 exact .inr hk
 exact .inl (.inr hk)
 exact hk.elim
 have := stamps_set hj v7
 rw [hkey] at this
 rw [this]; exact hEs
 exact filter_lt (fun x _ hx => by rw [has_push] at hx; revert hx; cases seen2.contains x.born <;> simp) hen (by rw [hen2, hse]; rfl) (by rw [hen2, has_push]; simp)
 refine C.region ?_
 refine W.nextM rfl hI1 hM1 rfl (fun hall => absurd hall hdone) ?_
 intro j e w2 hj hse hC2 hI2
 have hem := List.mem_of_getElem? hj
 have hem1 : e ∈ es1 := (List.mem_filter.1 hem).1
 obtain ⟨hev, xb, hxb, hkey⟩ := hA4.mem hem1
 have hxok := (hS.ok.1 xb hxb).1
 obtain ⟨lk, hlk⟩ := keyP (show InI xb.round from hxok.1) (show InI xb.chain from hxok.2.1)
 have hM2 := hM1.chg hC2 (fun e => hr1F (by rw [← e]; exact hmF))
 have hs2 := hC2.size
 have hB32 := hB31.chg hC2 (fun e => hr1g3 e.symm)
 have hg2 := hg1.chg hC2 (fun e => hr1F (by rw [← e]; exact hgF))
 have hrk : roundK e.key = xb.round := by rw [hkey]; rfl
 refine W.extract rfl rfl rfl (W.nil (At.thenCode (C.seq ?_)))
 refine C.condT rfl ?_
 refine C.skip (At.thenCode (C.block (C.seq (C.region ?_))))
 refine W.entryM rfl hI2 hM2 hj rfl ?_
 rw [hkey]
 refine W.extract rfl rfl rfl ?_
 refine W.alloc (z := .agg #[.int .i64 0, .int .i64 0]) [.int .i64 0, .int .i64 0] (by kernel_rfl) rfl rfl ?_
 intro g4 w6 hg4 hX6 hB6
 refine W.storeA [.int .i64 xb.round, .int .i64 xb.chain] rfl rfl hB6 rfl (by kernel_rfl) (by
   intro u hu
   simp only [List.mem_cons, List.not_mem_nil, or_false] at hu
   rcases hu with rfl | rfl <;> rfl) ?_
 intro w7 hC7 hB7
 have hX7 : Ext w2 w7 := hX6.news hC7 fun k hk => Or.inr (by omega)
 have hM7 := hM2.ext hX7
 have hI7 := hI2.chg hX7 (fun c => c)
 have hB37 := hB32.ext hX7
 have hg7 := hg2.ext hX7
 have hs7 := hX7.size
 have hC7w : Chg (fun k => k = mg ∨ k = r1) w5 w7 := (hC1.trans (hC2.mono fun k hk => .inr hk)).ext hX7
 refine W.nil (At.thenCode (C.seq (C.region (W.fieldB (off := 0) (size := 1) (t := 3) (Fld.of (by kernel_rfl)) rfl rfl rfl ?_))))
 refine W.loadB (v := .int .i64 xb.round) rfl Tryz.underlying3 rfl hB7 rfl rfl ?_
 refine W.loadB (v := .int .i64 (r : Int)) rfl Tryz.underlying3 rfl hB37 rfl rfl ?_
 refine W.lssI rfl rfl rfl (W.nil (At.thenCode ?_))
 refine C.condD rfl (fun c29 => ?_) (fun c29 => ?_)
 refine C.regionAny 5 (E_ (.pointer (some ⟨g, 0, none⟩)) :: E_ (.pointer (some ⟨g, 0, none⟩)) :: E_ (.pointer (some ⟨g, 1, none⟩)) :: E_ (.map (some mg)) :: E_ (placeV xb.round xb.chain) :: []) [(0, .pointer (some ⟨g, 0, none⟩)), (3, .pointer (some ⟨g3, 0, none⟩)), (4, .pointer (some ⟨g4, 0, none⟩)), (21, .pointer (some ⟨r1, 0, none⟩))] [] (sc rfl (sc rfl (sc rfl (sc rfl (Sub.nil))))) (Sub.nil) (sc rfl (sc rfl (sc rfl (sc rfl (Sub.nil))))) (by kernel_rfl) rfl rfl rfl (sN (sN (sN (sN (sN (trivial)))))) ?_ ?_
 refine And.intro (mB rfl rfl (fun _ => rfl) rfl) ?_
 refine And.intro ?_ ?_
 intro L_ wq hX_ hs_ hf_ hd_
 obtain ⟨_, e0, rfl⟩ := hd_ 0 rfl
 exact W.s1 (e0 _ rfl) (W.nilCheck rfl rfl (W.e0 rfl))
 refine And.intro ?_ ?_
 intro L_ wq hX_ hs_ hf_ hd_
 obtain ⟨_, e1, rfl⟩ := hd_ 1 rfl
 exact W.s1 (e1 _ rfl) (W.fieldB (off := 1) (size := 1) (t := 65) (Fld.of (by kernel_rfl)) rfl rfl rfl (W.e0 rfl))
 refine And.intro ?_ ?_
 intro L_ wq hX_ hs_ hf_ hd_
 obtain ⟨_, e2, rfl⟩ := hd_ 2 rfl
 refine W.s1 (e2 _ rfl) ?_
 refine W.loadB (v := .map (some mg)) rfl Tryz.underlying65 rfl (hg7.ext hX_) rfl rfl ?_
 exact W.e0 rfl
 refine And.intro ?_ ?_
 intro L_ wq hX_ hs_ hf_ hd_
 refine W.s1 (hs_ 4 _ rfl) ?_
 refine W.loadA (cs := [.int .i64 xb.round, .int .i64 xb.chain]) rfl ((hB7.ext hX_).cells (o := 0)) Tryz.underlying125 rfl (by kernel_rfl) rfl ?_
 exact W.e0 rfl
 exact trivial
 intro L_ wq hX7 hs_ hv_
 obtain ⟨_, e3, rfl⟩ := hv_ 3 (by decide)
 obtain ⟨_, e4, rfl⟩ := hv_ 4 (by decide)
 refine W.weaken (l' := [(33, _), (34, _), (0, _), (3, _), (4, _), (21, _)]) (sc (e3 _ rfl) (sc (e4 _ rfl) (sc (hs_ _ _ rfl) (sc (hs_ _ _ rfl) (sc (hs_ _ _ rfl) (sc (hs_ _ _ rfl) (Sub.nil))))))) ?_
 have hXq := hX7
 refine W.deleteM lawP Tryz.underlying65 rfl rfl (hM7.ext hXq) hlk ?_
 intro es' w8 hC8 hM8 hd8
 have hes' : es' = restE (seen.push e.born) r es1 := by
   rcases hd8 with ⟨hno, _⟩ | ⟨j', e', hj', hk', rfl⟩
   exact absurd hkey (hno e hem)
   have hjj := hM7.uniq hj' hj (hk'.trans hkey.symm)
   subst hjj
   have he := Option.some.inj (hj'.symm.trans hj)
   subst he
   have hke : stayE r e' = false := by unfold stayE; rw [hrk]; exact decide_eq_false (by omega)
   have hfe : (restE seen r es1).eraseIdx j' = (restE seen r es1).filter fun x => !decide (x.born = e'.born) := by
     refine (ChangeMaps.filter_eq_eraseIdx (fun x : MapEntry => decide (x.born = e'.born)) _ j' e' hj (by simp) ?_).symm
     refine List.pairwise_iff_getElem.2 fun a b ha hb hab ⟨h1, h2⟩ => ?_
     simp only [decide_eq_true_eq] at h1 h2
     have := hM7.uniqB (List.getElem?_eq_getElem ha) (List.getElem?_eq_getElem hb) (h1.trans h2.symm)
     omega
   rw [hfe]
   unfold restE
   rw [List.filter_filter]
   apply List.filter_congr
   intro x hx
   rw [has_push]
   by_cases hb : x.born = e'.born
   have hxe : x = e' := by
     obtain ⟨i1, hi1⟩ := List.mem_iff_getElem?.1 hx
     obtain ⟨i2, hi2⟩ := List.mem_iff_getElem?.1 hem1
     have := hA4.mp.uniqB hi1 hi2 hb
     subst this
     exact Option.some.inj (hi1.symm.trans hi2)
   subst hxe
   simp [hke]
   simp [hb]
 rw [hes'] at hM8
 have hs8 := hC8.size
 have hC8w : Chg (fun k => k = mg ∨ k = r1) w5 w8 := (hC7w.ext hXq).trans (hC8.mono fun k hk => .inl hk)
 have hI8 : It w8 r1 mg c1 (seen.push e.born) c1 := (hI7.chg hXq (fun c => c)).chg hC8 (fun e => hr1F (by rw [e]; exact hmF))
 refine W.nil (At.blockNormal ?_)
 refine At.thenRound (seen.push e.born, c1) (sc rfl (sc rfl (sc rfl (Sub.nil)))) (show Chg (fun k => k = mg ∨ k = r1) w5 _ ∧ Mp Tryz.prog 125 _ mg (restE (seen.push e.born) r es1) c1 ∧ It _ r1 mg c1 (seen.push e.born) (c1) from ?_) (show (leftE (seen.push e.born) es1).length < (leftE seen es1).length from ?_)
 exact ⟨hC8w, hM8, hI8⟩
 exact filter_lt (fun x _ hx => by rw [has_push] at hx; revert hx; cases seen.contains x.born <;> simp) hem1 (by rw [hse]; rfl) (by rw [has_push]; simp)
 refine C.skip (At.blockNormal ?_)
 have hke : stayE r e = true := by unfold stayE; rw [hrk]; exact decide_eq_true (by omega)
 have hsame : restE (seen.push e.born) r es1 = restE seen r es1 := by
   unfold restE
   apply List.filter_congr
   intro x hx
   rw [has_push]
   by_cases hb : x.born = e.born
   have hxe : x = e := by
     obtain ⟨i1, hi1⟩ := List.mem_iff_getElem?.1 hx
     obtain ⟨i2, hi2⟩ := List.mem_iff_getElem?.1 hem1
     have := hA4.mp.uniqB hi1 hi2 hb
     subst this
     exact Option.some.inj (hi1.symm.trans hi2)
   subst hxe
   simp [hke]
   simp [hb]
 refine At.thenRound (seen.push e.born, c1) (sc rfl (sc rfl (sc rfl (Sub.nil)))) (show Chg (fun k => k = mg ∨ k = r1) w5 _ ∧ Mp Tryz.prog 125 _ mg (restE (seen.push e.born) r es1) c1 ∧ It _ r1 mg c1 (seen.push e.born) (c1) from ?_) (show (leftE (seen.push e.born) es1).length < (leftE seen es1).length from ?_)
 exact ⟨hC7w, by rw [hsame]; exact hM7, hI7⟩
 exact filter_lt (fun x _ hx => by rw [has_push] at hx; revert hx; cases seen.contains x.born <;> simp) hem1 (by rw [hse]; rfl) (by rw [has_push]; simp)
end Go.Proofs.YthiijdbiikljpaaGreat.Mbx
namespace Go.Proofs.YthiijdbiikljpaaGreat.Mbx
open Go Go.RowKit Go.Proofs.YthiijdbiikljpaaGreat.KW Go.Proofs.YthiijdbiikljpaaGreat.Words Go.Proofs.YthiijdbiikljpaaGreat.Sha Go.Proofs.YthiijdbiikljpaaGreat.RSha Go.Proofs.YthiijdbiikljpaaGreat.Grp Go.Proofs.YthiijdbiikljpaaGreat.Cod Go.Proofs.YthiijdbiikljpaaGreat.Disk
set_option linter.unusedVariables false
set_option linter.unusedSimpArgs false
set_option maxRecDepth 100000
theorem mayE_zero {s : Bag} {x : BatD} (h : mayE s x = 0) : x.round ≤ 1099511627776 ∧ batE x = 0 ∧ (s.past : Int) ≤ x.round ∧ hasL s.l x.round x.chain = false := by
 unfold mayE at h
 split at h
 cases h
 rename_i h1
 split at h
 rename_i h2; exact absurd h h2
 rename_i h2
 split at h
 cases h
 rename_i h3
 split at h
 cases h
 rename_i h4
 refine ⟨?_, ?_, by omega, by simpa using h4⟩
 rcases Classical.em (1099511627776 < x.round) with h5 | h5
 exact absurd (.inl h5) h1
 omega
 rcases Nat.eq_zero_or_pos (batE x) with h5 | h5
 exact h5
 exact absurd (by omega : batE x ≠ 0) h2
theorem again_1 (s : Bag) (y : List UInt8) : againS s (1 :: y) = if batRE y = 0 ∧ mayE s (batR y) = 0 then some (takeS s (batR y)) else none := by rw [againS]; exact if_pos rfl
theorem again_2 (s : Bag) (y : List UInt8) : againS s (2 :: y) = if y.length = 8 ∧ beNat y ≤ 1099511627776 then some (goneS s (beNat y)) else none := by rw [againS, if_neg (by decide)]; exact if_pos rfl
theorem again_x (s : Bag) {t : UInt8} (h1 : t ≠ 1) (h2 : t ≠ 2) (y : List UInt8) : againS s (t :: y) = none := by rw [againS, if_neg h1]; exact if_neg h2
theorem batR_small (y : List UInt8) : (batR y).inner.length ≤ 20 ∧ (batR y).lets.length ≤ 1000 ∧ ∀ p ∈ (batR y).lets, p.2.length ≤ 1048576 := by
 by_cases h : batRE y = 0
 exact batE_small (bat_again y h).1
 have : batR y = zeroBat := if_neg h
 rw [this]
 exact ⟨Nat.zero_le _, Nat.zero_le _, fun p hp => by cases hp⟩
def againB (s : Bag) (x : List UInt8) : Bag := (againS s x).getD s
theorem getV_tail {t : UInt8} {y : List UInt8} (h : y.length = 8) : getE (t :: y) 1 8 = 0 ∧ getV (t :: y) 1 8 = beNat y := by
 have h1 : getE (t :: y) 1 8 = 0 := getE_0.2 ⟨by omega, by simp; omega⟩
 refine ⟨h1, ?_⟩
 unfold getV
 rw [if_pos h1]
 show beNat ((List.drop 1 (t :: y)).take 8) = _
 rw [List.drop_succ_cons, List.drop_zero, List.take_of_length_le (by omega)]
theorem again_ok (F : Nat → Prop) (g dg : Nat) (s : Bag) (o : Option Nat) (a : Option Addr) (c : Nat) (b : List UInt8) (w : World) (hS : St w F g dg s o) (hb : Bs w a c b) (hl : b.length ≤ 1000000) (hsl : s.l.length ≤ 1000000000) :
   Ct Tryz.prog 29 #[.pointer (some ⟨g, 0, none⟩), .slice a b.length c] w (fun v w' => v = .bool (againS s b).isSome ∧ ∃ F' : Nat → Prop, St w' F' g dg (againB s b) o ∧ (∀ k, F k → F' k) ∧ (∀ k, F' k → F k ∨ w.heap.size ≤ k) ∧ Chg F w w') := by
 have hpast := hS.ok.2.1
 have hself : St w F g dg s o → (againS s b = none) → ∀ {w1 : World}, Ext w w1 → (Value.bool false = .bool (againS s b).isSome ∧ ∃ F' : Nat → Prop, St w1 F' g dg (againB s b) o ∧ (∀ k, F k → F' k) ∧ (∀ k, F' k → F k ∨ w.heap.size ≤ k) ∧ Chg F w w1) := fun h hn w1 hX => by
   unfold againB
   rw [hn]
   exact ⟨rfl, F, h.ext hX, fun k hk => hk, fun k hk => .inl hk, hX.mono fun _ c => c.elim⟩
 refine Ct.enter [(0, .pointer (some ⟨g, 0, none⟩)), (1, .slice a b.length c)] Tryz.func29 rfl rfl rfl rfl ?_
 refine C.seq (C.region (W.assign rfl rfl (W.nil (At.thenCode (C.seq (C.seq (C.region (W.move rfl rfl (W.lenS rfl Tryz.underlying22 rfl (W.eqlI rfl rfl rfl (W.nil ?_)))))))))))
 refine At.thenCode ?_
 refine C.condD rfl (fun c11 => ?_) (fun c11 => ?_)
 refine C.seq (C.region (W.assign rfl rfl (W.nil (At.thenCode (C.ret (At.thenRet ?_))))))
 refine At.ret1 Tryz.results29 rfl ?_
 obtain rfl : b = [] := List.eq_nil_of_length_eq_zero (by omega)
 exact hself hS rfl (Ext.refl _)
 obtain ⟨t, y, rfl⟩ : ∃ t y, b = t :: y := List.exists_cons_of_ne_nil (by rintro rfl; exact c11 rfl)
 have hyl : (t :: y).length = y.length + 1 := rfl
 refine C.skip (At.thenCode (C.seq (C.seq (C.region (W.move rfl rfl ?_)))))
 refine W.indexS (i := 0) E8 Tryz.underlying22 rfl hb rfl ⟨by omega, by omega⟩ rfl ?_
 intro ad13 _ _ hc13
 refine W.load (v := byteV t) rfl Tryz.underlying5 rfl (by have h := hc13 0 (byteV t) rfl; rwa [add_zero'] at h) rfl ?_
 rw [byteV_eq]
 refine W.nil (At.thenCode (C.block (C.seq (C.region ?_))))
 refine W.eqlU (n := 1) rfl rfl rfl ?_
 refine W.assign rfl rfl (W.nil (At.thenCode ?_))
 refine C.condD rfl (fun c15 => ?_) (fun c15 => ?_)
 have ht : t = 1 := UInt8.toNat_inj.1 c15
 subst ht
 refine C.seq (C.region (W.move rfl rfl ?_))
 refine W.slice (lo := 1) (hi := (1 :: y).length) E8 Tryz.underlying22 rfl hb (.inr ⟨_, .i64, rfl, rfl⟩) (.inl ⟨rfl, rfl⟩) (by omega) (Nat.le_refl _) rfl ?_
 intro a19 c19 hS19 _
 have hS19' : Bs w a19 c19 y := by
   have := Bs.part (lo := 1) (hi := (1 :: y).length) (by omega) (Nat.le_refl _) hS19
   rwa [List.drop_succ_cons, List.drop_zero, hyl, Nat.add_sub_cancel, List.take_of_length_le (Nat.le_refl _)] at this
 rw [hyl, Nat.add_sub_cancel]
 refine W.call Tryz.call58 rfl (Cod.ReadBatch_ok a19 c19 y _ hS19' (by omega)) rfl ?_
 rintro v20 w20 ⟨vi, vl, rfl, hI20, hL20, hX20⟩
 have hbo := batR_ok y
 obtain ⟨hb1, hb2, hb3⟩ := batR_small y
 have hrx : batRE y = 0 → batE (batR y) = 0 := fun h => (bat_again y h).1
 obtain ⟨xb, hxb⟩ : ∃ xb, xb = batR y := ⟨_, rfl⟩
 obtain ⟨rb, hrb⟩ : ∃ rb, rb = batRE y := ⟨_, rfl⟩
 rw [← hxb] at hI20 hL20 hbo hb1 hb2 hb3 hrx
 rw [← hrb] at hrx
 rw [← hxb, ← hrb]
 have hBM : BatM (fun k => k < w.heap.size) w20 xb vi vl := ⟨hI20, hL20, hbo, by omega, by omega, fun p hp => by have := hb3 p hp; omega⟩
 have hS20 := hS.ext hX20
 have hs20 := hX20.size
 refine W.move rfl rfl (W.extract rfl rfl rfl (W.extract rfl rfl rfl ?_))
 refine W.alloc (z := .agg #[.int .i64 0, .int .i64 0, .slice none 0 0, .slice none 0 0]) [.int .i64 0, .int .i64 0, .slice none 0 0, .slice none 0 0] (by kernel_rfl) rfl rfl ?_
 intro g5 w5 hg5 hX5 hB5
 refine W.storeA (batC xb vi vl) rfl rfl hB5 rfl (by kernel_rfl) (batC_one hBM) ?_
 intro w6 hC6 hB6
 have hX6 : Ext w20 w6 := hX5.news hC6 fun k hk => Or.inr (by omega)
 have hX6w := hX20.ext hX6
 have hS6 := hS20.ext hX6
 have hBM6 := hBM.ext hX6
 refine W.assign rfl rfl (W.nil (At.thenCode (C.seq (C.seq (C.region (W.move rfl rfl (W.neqI rfl rfl rfl (W.move rfl rfl ?_))))))))
 refine W.splitD (fun g25 => ?_) (fun g25 => ?_)
 refine W.skips rfl rfl rfl rfl rfl rfl (W.skips rfl rfl rfl rfl rfl rfl (W.skips rfl rfl rfl rfl rfl rfl (W.skips rfl rfl rfl rfl rfl rfl (W.pickT rfl rfl rfl (W.nil (At.thenCode ?_))))))
 refine C.condT rfl ?_
 refine C.seq (C.region (W.assign rfl rfl (W.nil (At.thenCode (C.ret (At.thenRet (At.blockRet (At.thenRet ?_))))))))
 refine At.ret1 Tryz.results29 rfl ?_
 have hre : ¬ rb = 0 := by have := g25; omega
 have hag : againS s (1 :: y) = none := by
   rw [again_1, ← hrb, if_neg (fun h => hre h.1)]
 exact hself hS hag hX6w
 refine W.wants rfl rfl rfl rfl (W.move rfl rfl (W.wants rfl rfl rfl rfl ?_))
 refine W.loadA rfl (hB6.cells (o := 0)) Tryz.underlying39 rfl (by kernel_rfl) rfl ?_
 rw [List.drop_zero]
 refine W.wants rfl rfl rfl rfl ?_
 refine W.call Tryz.call34 rfl (Mbx.may_ok F _ g dg s o xb vi vl _ hS6 hBM6) rfl ?_
 rintro v28 w28 ⟨rfl, hX28⟩
 refine W.wants rfl rfl rfl rfl (W.neqI rfl rfl rfl (W.pickF rfl rfl rfl (W.nil (At.thenCode ?_))))
 refine C.condD rfl (fun c30 => ?_) (fun c30 => ?_)
 refine C.seq (C.region (W.assign rfl rfl (W.nil (At.thenCode (C.ret (At.thenRet (At.blockRet (At.thenRet ?_))))))))
 refine At.ret1 Tryz.results29 rfl ?_
 have hme : ¬ mayE s xb = 0 := by omega
 have hag : againS s (1 :: y) = none := by
   rw [again_1, ← hxb, if_neg (fun h => hme h.2)]
 exact hself hS hag (hX6w.ext hX28)
 have hre : rb = 0 := by have := g25; omega
 have hme : mayE s xb = 0 := by omega
 obtain ⟨m1, m2, m3, m4⟩ := mayE_zero hme
 have hag : againS s (1 :: y) = some (takeS s xb) := by
   rw [again_1, ← hrb, ← hxb, if_pos ⟨hre, hme⟩]
 have hS28 := hS6.ext hX28
 have hBM28 := hBM6.ext hX28
 refine C.skip (At.thenCode (C.seq (C.region (W.move rfl rfl ?_))))
 refine W.loadA rfl ((hB6.ext hX28).cells (o := 0)) Tryz.underlying39 rfl (by kernel_rfl) rfl ?_
 rw [List.drop_zero]
 refine W.call Tryz.call38 rfl (Mbx.take_ok F g dg s o xb vi vl _ hS28 (hBM28.new fun k hk _ => hS.lt k hk) m4 m2 hsl) rfl ?_
 rintro v33 w33 ⟨F', hS33, hF1, hF2, hC33⟩
 refine W.nil (At.thenCode (C.seq (C.region (W.assign rfl rfl (W.nil (At.thenCode (C.ret (At.blockRet (At.thenRet ?_)))))))))
 refine At.ret1 Tryz.results29 rfl ?_
 unfold againB
 rw [hag]
 have hs28 := (hX6w.ext hX28).size
 exact ⟨rfl, F', hS33, hF1, fun k hk => (hF2 k hk).imp id fun h => by omega, ((hX6w.ext hX28).mono fun _ c => c.elim).trans hC33⟩
 have ht1 : t ≠ 1 := fun e => c15 (by rw [e]; rfl)
 refine C.seq (C.region ?_)
 refine W.eqlU (n := 2) rfl rfl rfl ?_
 refine W.assign rfl rfl (W.nil (At.thenCode ?_))
 refine C.condD rfl (fun c34 => ?_) (fun c34 => ?_)
 have ht : t = 2 := UInt8.toNat_inj.1 c34
 subst ht
 refine C.seq (C.region (W.move rfl rfl ?_))
 refine W.call Tryz.call59 rfl (Words.Get64_ok a c (2 :: y) 1 _ hb (by omega) (by omega)) rfl ?_
 rintro v38 w38 ⟨rfl, rfl⟩
 refine W.move rfl rfl (W.extract rfl rfl rfl (W.extract rfl rfl rfl (W.assign rfl rfl (W.assign rfl rfl (W.nil (At.thenCode (C.seq (C.seq (C.region (W.move rfl rfl (W.neqI rfl rfl rfl ?_)))))))))))
 refine W.move rfl rfl ?_
 refine W.splitD (fun g43 => ?_) (fun g43 => ?_)
 refine W.skips rfl rfl rfl rfl rfl rfl (W.skips rfl rfl rfl rfl rfl rfl (W.skips rfl rfl rfl rfl rfl rfl (W.pickT rfl rfl rfl (W.move rfl rfl (W.skips rfl rfl rfl rfl rfl rfl (W.skips rfl rfl rfl rfl rfl rfl (W.pickT rfl rfl rfl (W.nil (At.thenCode ?_)))))))))
 refine C.condT rfl ?_
 refine C.seq (C.region (W.assign rfl rfl (W.nil (At.thenCode (C.ret (At.thenRet (At.blockRet (At.thenRet ?_))))))))
 refine At.ret1 Tryz.results29 rfl ?_
 have hag : againS s (2 :: y) = none := by
   rw [again_2, if_neg]
   rintro ⟨h8, _⟩
   obtain ⟨hg1, hg2⟩ := getV_tail (t := 2) h8
   have := g43
   omega
 exact hself hS hag (Ext.refl _)
 refine W.wants rfl rfl rfl rfl (W.move rfl rfl (W.wants rfl rfl rfl rfl (W.lenS rfl Tryz.underlying22 rfl (W.wants rfl rfl rfl rfl (W.neqI rfl rfl rfl (W.pickF rfl rfl rfl (W.move rfl rfl ?_)))))))
 refine W.splitD (fun g48 => ?_) (fun g48 => ?_)
 refine W.skips rfl rfl rfl rfl rfl rfl (W.skips rfl rfl rfl rfl rfl rfl (W.pickT rfl rfl rfl (W.nil (At.thenCode ?_))))
 refine C.condT rfl ?_
 refine C.seq (C.region (W.assign rfl rfl (W.nil (At.thenCode (C.ret (At.thenRet (At.blockRet (At.thenRet ?_))))))))
 refine At.ret1 Tryz.results29 rfl ?_
 have hag : againS s (2 :: y) = none := by
   rw [again_2, if_neg]
   rintro ⟨h8, _⟩
   have := g48
   omega
 exact hself hS hag (Ext.refl _)
 refine W.wants rfl rfl rfl rfl (W.move rfl rfl (W.wants rfl rfl rfl rfl ?_))
 refine W.gtrU (n := 1099511627776) rfl rfl rfl ?_
 refine W.pickF rfl rfl rfl (W.nil (At.thenCode ?_))
 refine C.condD rfl (fun c51 => ?_) (fun c51 => ?_)
 refine C.seq (C.region (W.assign rfl rfl (W.nil (At.thenCode (C.ret (At.thenRet (At.blockRet (At.thenRet ?_))))))))
 refine At.ret1 Tryz.results29 rfl ?_
 have hag : againS s (2 :: y) = none := by
   rw [again_2, if_neg]
   rintro ⟨h8, h9⟩
   obtain ⟨hg1, hg2⟩ := getV_tail (t := 2) h8
   rw [hg2] at c51
   omega
 exact hself hS hag (Ext.refl _)
 have h8 : y.length = 8 := by omega
 obtain ⟨hg1, hg2⟩ := getV_tail (t := 2) h8
 have hn40 : beNat y ≤ 1099511627776 := by rw [← hg2]; omega
 have hag : againS s (2 :: y) = some (goneS s (beNat y)) := by
   rw [again_2, if_pos ⟨h8, hn40⟩]
 refine C.skip (At.thenCode (C.seq (C.region (W.move rfl rfl (W.move rfl rfl ?_)))))
 rw [hg2]
 refine W.convI rfl Tryz.underlying83 Tryz.underlying3 (by omega) rfl ?_
 refine W.call Tryz.call45 rfl (Mbx.expire_ok F g dg s o (beNat y) _ hS hn40 hsl) rfl ?_
 rintro v55 w55 ⟨F', hS55, hF1, hF2, hC55⟩
 refine W.nil (At.thenCode (C.seq (C.region (W.assign rfl rfl (W.nil (At.thenCode (C.ret (At.blockRet (At.thenRet ?_)))))))))
 refine At.ret1 Tryz.results29 rfl ?_
 unfold againB
 rw [hag]
 exact ⟨rfl, F', hS55, hF1, hF2, hC55⟩
 have ht2 : t ≠ 2 := fun e => c34 (by rw [e]; rfl)
 refine C.skip (At.blockNormal (At.thenCode (C.seq (C.region (W.assign rfl rfl (W.nil (At.thenCode (C.ret ?_))))))))
 refine At.ret1 Tryz.results29 rfl ?_
 have hag : againS s (t :: y) = none := again_x s ht1 ht2 y
 exact hself hS hag (Ext.refl _)
end Go.Proofs.YthiijdbiikljpaaGreat.Mbx
namespace Go.Proofs.YthiijdbiikljpaaGreat.Mbx
open Go Go.RowKit Go.Proofs.YthiijdbiikljpaaGreat.KW Go.Proofs.YthiijdbiikljpaaGreat.Words Go.Proofs.YthiijdbiikljpaaGreat.Sha Go.Proofs.YthiijdbiikljpaaGreat.RSha Go.Proofs.YthiijdbiikljpaaGreat.Grp Go.Proofs.YthiijdbiikljpaaGreat.Cod Go.Proofs.YthiijdbiikljpaaGreat.Disk
set_option linter.unusedVariables false
set_option linter.unusedSimpArgs false
set_option maxRecDepth 100000
theorem againS_len {s s' : Bag} {x : List UInt8} (h : againS s x = some s') : s'.l.length ≤ s.l.length + 1 := by
 cases x with
 | nil => cases h
 | cons t y =>
   by_cases h1 : t = 1
   subst h1
   rw [again_1] at h
   split at h
   obtain rfl := Option.some.inj h
   simp [takeS]
   cases h
   by_cases h2 : t = 2
   subst h2
   rw [again_2] at h
   split at h
   obtain rfl := Option.some.inj h
   unfold goneS
   split
   omega
   have := List.length_filter_le (fun x : BatD => decide ((beNat y : Int) ≤ x.round)) s.l
   show (goneL s.l (beNat y)).length ≤ _
   unfold goneL
   omega
   cases h
   rw [again_x s h1 h2] at h; cases h
structure Opened (w : World) (Fd : Nat → Prop) (dg : Nat) (rv : Int) (B : Box) (g : Nat) (w' : World) : Prop where
  out : ∃ F' Fd' : Nat → Prop, St w' F' g dg B.s B.owed ∧ Dk w' Fd' dg rv B.D ∧ (∀ k, F' k → w.heap.size ≤ k) ∧ (∀ k, F' k → ¬ Fd' k) ∧ (∀ k, Fd' k → Fd k ∨ w.heap.size ≤ k)
  chg : Chg Fd w w'
theorem Opened.of {w w' : World} {Fd : Nat → Prop} {dg : Nat} {rv : Int} {B B' : Box} {g : Nat} {F' Fd' : Nat → Prop} (hb : B' = B) (h1 : St w' F' g dg B.s B.owed) (h2 : Dk w' Fd' dg rv B.D) (h3 : ∀ k, F' k → w.heap.size ≤ k) (h4 : ∀ k, F' k → ¬ Fd' k) (h5 : ∀ k, Fd' k → Fd k ∨ w.heap.size ≤ k) (hc : Chg Fd w w') : Opened w Fd dg rv B' g w' := by
 rw [hb]; exact ⟨⟨F', Fd', h1, h2, h3, h4, h5⟩, hc⟩
theorem St.empty {w : World} {g dg mg lg : Nat} (h1 : Bk w g (stC dg mg lg 0 none)) (h2 : Mp Tryz.prog 125 w mg [] 0) (h3 : Mp Tryz.prog 43 w lg [] 0) (h4 : g ≠ mg ∧ g ≠ lg ∧ mg ≠ lg) : St w (Zof g mg lg) g dg ⟨[], 0⟩ none := by
 have hlt : ∀ k, Zof g mg lg k → k < w.heap.size := by
   rintro k (rfl | rfl | rfl)
   exact h1.lt
   exact h2.lt
   exact h3.lt
 refine ⟨⟨mg, lg, fun _ => True, [], 0, [], 0, h1, ⟨h2, rfl⟩, ⟨h3, fun e he => by simp at he, fun name _ h => absurd rfl h, fun e he => by simp at he, by simp⟩, ⟨fun k hk => hk, fun _ _ => trivial, fun _ _ => trivial, hlt⟩, h4⟩, .inl rfl, hlt, ⟨fun x hx => by simp at hx, Nat.zero_le _, fun n hn => by cases hn⟩⟩
theorem Open_ok (Fd : Nat → Prop) (dg : Nat) (rv : Int) (D : Dsk) (w : World) (hD : Dk w Fd dg rv D) (hl : D.bs.length ≤ 1000000) :
   Ct Tryz.prog 9 #[.pointer (some ⟨dg, 0, none⟩)] w (fun v w' => ∃ g, v = .pointer (some ⟨g, 0, none⟩) ∧ Opened w Fd dg rv (openB D) g w') := by
 refine Ct.enter [(0, .pointer (some ⟨dg, 0, none⟩))] Tryz.func9 rfl rfl rfl rfl ?_
 have hdlt := hD.lt
 refine C.seq (C.region (W.assign rfl rfl (W.nil (At.thenCode (C.seq (C.region (W.move rfl rfl ?_)))))))
 refine W.makeMap (kt := 125) rfl ?_
 intro mg w1 hmg hX1 hM1
 refine W.makeMap (kt := 43) rfl ?_
 intro lg w2 hlg hX2 hM2
 refine W.buildS (fs := _) [(0, 1), (1, 1), (2, 1), (3, 1), (4, 1)] (stC dg mg lg 0 none) [(.pointer none), (.map none), (.map none), (.int .i64 0), (.int .i64 0)] Tryz.underlying68 (by kernel_rfl) (by kernel_rfl) rfl rfl rfl ?_
 refine W.box (stC dg mg lg 0 none) rfl rfl rfl ?_
 intro g w3 hg hX3 hB3
 have hml := hM1.lt
 have hll := hM2.lt
 have hS3 : St w3 (Zof g mg lg) g dg ⟨[], 0⟩ none := St.empty hB3 ((hM1.ext hX2).ext hX3) (hM2.ext hX3) ⟨by have := hX2.size; omega, by omega, by omega⟩
 have hX3w := (hX1.ext hX2).ext hX3
 have hD3 := hD.ext hX3w
 have hs1 := hX1.size
 have hs2 := hX2.size
 have hs3 := hX3.size
 have hZn : ∀ k, Zof g mg lg k → w.heap.size ≤ k := by
   rintro k (rfl | rfl | rfl) <;> omega
 have hZd : ∀ k, Fd k → ¬ Zof g mg lg k := fun k hk hz => by have := hdlt k hk; have := hZn k hz; omega
 refine W.assign rfl rfl (W.nil (At.thenCode (C.seq (C.seq (C.region (W.move rfl rfl ?_))))))
 refine W.eqlPtr rfl rfl rfl rfl ?_
 refine W.nil (At.thenCode ?_)
 refine C.condF rfl ?_
 refine C.skip (At.thenCode (C.seq (C.region (W.move rfl rfl ?_))))
 refine W.call Tryz.call22 rfl (Disk.Bytes_ok Fd dg rv D _ hD3) rfl ?_
 rintro v17 w17 ⟨⟨a17, c17, rfl, hS17, hb17⟩, hX17⟩
 have hs17 := hX17.size
 have hSt17 := hS3.ext hX17
 have hD17 := hD3.ext hX17
 have hX17w := hX3w.ext hX17
 have hbZ : ∀ ad, a17 = some ad → D.bs.map byteV ≠ [] → ¬ Zof g mg lg ad.block := fun ad e _ hz => by have := hb17 ad e; have := hS3.lt _ hz; omega
 refine W.assign rfl rfl (W.nil (At.thenCode (C.seq (C.region (W.assign rfl rfl (W.nil (At.thenCode (C.seq (C.seq (C.region (W.move rfl rfl ?_)))))))))))
 refine W.move rfl rfl ?_
 refine W.call Tryz.call28 rfl (Mbx.next_ok a17 c17 D.bs 0 _ hS17 hl (Nat.zero_le _)) rfl ?_
 rintro v21 w21 ⟨⟨v1, rfl, hx21⟩, hX21⟩
 have hs21 := hX21.size
 refine W.move rfl rfl (W.extract rfl rfl rfl (W.extract rfl rfl rfl (W.assign rfl rfl (W.assign rfl rfl (W.nil (At.thenCode (C.block ?_)))))))
 refine C.loop (X := Nat × Bag × Value) (fun x_ => [(0, .pointer (some ⟨dg, 0, none⟩)), (3, .pointer (some ⟨g, 0, none⟩)), (4, .slice a17 D.bs.length c17), (5, .int .i64 (x_.1 : Int)), (6, x_.2.2), (7, .bool (rec1 (D.bs.drop x_.1)).isSome)]) (fun x_ wl => x_.1 ≤ D.bs.length ∧ x_.2.1.l.length ≤ x_.1 ∧ scanS ⟨[], 0⟩ D.bs = ((scanS x_.2.1 (D.bs.drop x_.1)).1, x_.1 + (scanS x_.2.1 (D.bs.drop x_.1)).2) ∧ (∀ zz, rec1 (D.bs.drop x_.1) = some zz → ∃ ao c, x_.2.2 = .slice ao zz.length c ∧ Bs wl ao c zz ∧ ∀ ad, ao = some ad → ∃ a, a17 = some a ∧ ad.block = a.block) ∧ Chg (Zof g mg lg) w17 wl ∧ ∃ F1 : Nat → Prop, St wl F1 g dg x_.2.1 none ∧ (∀ k, F1 k → Zof g mg lg k ∨ w17.heap.size ≤ k)) (fun x_ => D.bs.length - x_.1) (0, (⟨[], 0⟩ : Bag), v1) (sc rfl (sc rfl (sc rfl (sc rfl (sc rfl (sc rfl (Sub.nil))))))) ?start1 ?_
 case start1 =>
   show (0) ≤ D.bs.length ∧ ((⟨[], 0⟩ : Bag)).l.length ≤ (0) ∧ scanS ⟨[], 0⟩ D.bs = ((scanS ((⟨[], 0⟩ : Bag)) (D.bs.drop (0))).1, (0) + (scanS ((⟨[], 0⟩ : Bag)) (D.bs.drop (0))).2) ∧ (∀ zz, rec1 (D.bs.drop (0)) = some zz → ∃ ao c, (v1) = .slice ao zz.length c ∧ Bs _ ao c zz ∧ ∀ ad, ao = some ad → ∃ a, a17 = some a ∧ ad.block = a.block) ∧ Chg (Zof g mg lg) w17 _ ∧ ∃ F1 : Nat → Prop, St _ F1 g dg ((⟨[], 0⟩ : Bag)) none ∧ (∀ k, F1 k → Zof g mg lg k ∨ w17.heap.size ≤ k)
   exact ⟨by omega, Nat.le_refl _, by rw [List.drop_zero, Nat.zero_add], hx21, hX21.mono (fun _ c => c.elim), Zof g mg lg, hSt17.ext hX21, fun k hk => .inl hk⟩
 rintro ⟨at_, sb, vx⟩ wl hI_
 replace hI_ : at_ ≤ D.bs.length ∧ sb.l.length ≤ at_ ∧ scanS ⟨[], 0⟩ D.bs = ((scanS sb (D.bs.drop at_)).1, at_ + (scanS sb (D.bs.drop at_)).2) ∧ (∀ zz, rec1 (D.bs.drop at_) = some zz → ∃ ao c, vx = .slice ao zz.length c ∧ Bs wl ao c zz ∧ ∀ ad, ao = some ad → ∃ a, a17 = some a ∧ ad.block = a.block) ∧ Chg (Zof g mg lg) w17 wl ∧ ∃ F1 : Nat → Prop, St wl F1 g dg sb none ∧ (∀ k, F1 k → Zof g mg lg k ∨ w17.heap.size ≤ k) := hI_
 obtain ⟨hat, hln, hscan, hvx, hCl, F1, hSt1, hF1⟩ := hI_
 refine C.weaken (l' := [(0, .pointer (some ⟨dg, 0, none⟩)), (3, .pointer (some ⟨g, 0, none⟩)), (4, .slice a17 D.bs.length c17), (5, .int .i64 (at_ : Int)), (6, vx), (7, .bool (rec1 (D.bs.drop at_)).isSome)]) (sc rfl (sc rfl (sc rfl (sc rfl (sc rfl (sc rfl (Sub.nil))))))) ?_
 have hsl := hCl.size
 have hDl := hD17.chg hCl hZd
 have hbl : Bs wl a17 c17 D.bs := Sl.chg hS17 hCl fun ad e hne => hbZ ad e hne
 refine C.seq (C.seq (C.region (W.move rfl rfl (W.move rfl rfl ?_))))
 first | refine W.splitD (fun g25 => ?_) (fun g25 => ?_) | refine W.splitB (fun g25 => ?_) (fun g25 => ?_)
 obtain ⟨x, hx⟩ := Option.isSome_iff_exists.1 g25
 obtain ⟨ax, cx, rfl, hbx, hblk⟩ := hvx x hx
 have hxl := rec1_len hx
 rw [List.length_drop] at hxl
 refine W.wants rfl rfl rfl rfl (W.move rfl rfl (W.wants rfl rfl rfl rfl (W.move rfl rfl (W.wants rfl rfl rfl rfl ?_))))
 refine W.call Tryz.call29 rfl (Mbx.again_ok F1 g dg sb none ax cx x _ hSt1 hbx (by omega) (by omega)) rfl ?_
 rintro v28 w28 ⟨rfl, F2, hSt28, hF12, hF21, hC28⟩
 have hF2 : ∀ k, F2 k → Zof g mg lg k ∨ w17.heap.size ≤ k := fun k hk => by
   rcases hF21 k hk with h | h
   exact hF1 k h
   exact .inr (by omega)
 have hC28' : Chg (Zof g mg lg) w17 w28 := hCl.news hC28 fun k hk => hF1 k hk
 refine W.pickT rfl rfl rfl (W.nil (At.thenCode ?_))
 first | refine C.condD rfl (fun c29 => ?_) (fun c29 => ?_) | refine C.cond rfl (fun c29 => ?_) (fun c29 => ?_)
 obtain ⟨s', hs'⟩ := Option.isSome_iff_exists.1 c29
 have hab : againB sb x = s' := by unfold againB; rw [hs']; rfl
 rw [hab] at hSt28
 have hlen' := againS_len hs'
 have hbl28 : Bs w28 a17 c17 D.bs := Sl.chg hS17 hC28' fun ad e hne => hbZ ad e hne
 refine C.skip (At.thenCode (C.seq (C.block (C.region (W.move rfl rfl (W.move rfl rfl (W.lenS rfl Tryz.underlying22 rfl ?_)))))))
 refine W.addI rfl rfl (by omega) rfl ?_
 refine W.addI rfl rfl (by omega) rfl ?_
 refine W.assign rfl rfl (W.nil (At.blockNormal (At.thenCode (C.region (W.move rfl rfl (W.move rfl rfl ?_))))))
 refine W.call Tryz.call28 rfl (Mbx.next_ok a17 c17 D.bs (at_ + (12 + x.length)) _ hbl28 hl (by omega)) rfl ?_
 rintro v33 w33 ⟨⟨v3, rfl, hx33⟩, hX33⟩
 refine W.move rfl rfl (W.extract rfl rfl rfl (W.extract rfl rfl rfl (W.assign rfl rfl (W.assign rfl rfl (W.nil ?_)))))
 have hstep := scanS_step hx hs'
 rw [List.drop_drop] at hstep
 refine At.thenRound (at_ + (12 + x.length), s', v3) (sc rfl (sc rfl (sc rfl (sc rfl (sc rfl (sc rfl (Sub.nil))))))) (show (at_ + (12 + x.length)) ≤ D.bs.length ∧ (s').l.length ≤ (at_ + (12 + x.length)) ∧ scanS ⟨[], 0⟩ D.bs = ((scanS (s') (D.bs.drop (at_ + (12 + x.length)))).1, (at_ + (12 + x.length)) + (scanS (s') (D.bs.drop (at_ + (12 + x.length)))).2) ∧ (∀ zz, rec1 (D.bs.drop (at_ + (12 + x.length))) = some zz → ∃ ao c, (v3) = .slice ao zz.length c ∧ Bs _ ao c zz ∧ ∀ ad, ao = some ad → ∃ a, a17 = some a ∧ ad.block = a.block) ∧ Chg (Zof g mg lg) w17 _ ∧ ∃ F1 : Nat → Prop, St _ F1 g dg (s') none ∧ (∀ k, F1 k → Zof g mg lg k ∨ w17.heap.size ≤ k) from ?_) (show D.bs.length - (at_ + (12 + x.length)) < D.bs.length - at_ from ?_)
 refine ⟨by omega, by omega, ?_, hx33, hC28'.ext hX33, F2, hSt28.ext hX33, hF2⟩
 rw [hscan, hstep]
 simp only [Nat.add_assoc]
 omega
 have hag : againS sb x = none := by simpa using c29
 have hfin : scanS ⟨[], 0⟩ D.bs = (sb, at_) := by rw [hscan, scanS_stop (.inr ⟨x, hx, hag⟩)]; rfl
 have hab : againB sb x = sb := by unfold againB; rw [hag]; rfl
 rw [hab] at hSt28
 obtain ⟨Ff, hStf, hFf, hCf⟩ : ∃ Ff : Nat → Prop, St w28 Ff g dg sb none ∧ (∀ k, Ff k → Zof g mg lg k ∨ w17.heap.size ≤ k) ∧ Chg (Zof g mg lg) w17 w28 := ⟨F2, hSt28, hF2, hC28'⟩
 have hDf := hD17.chg hCf hZd
 have hsf := hCf.size
 refine C.exit (At.thenExit (At.thenExit (At.blockSelf (At.thenCode (C.seq (C.seq (C.region (W.move rfl rfl (W.move rfl rfl (W.lenS rfl Tryz.underlying22 rfl (W.lssI rfl rfl rfl ?_)))))))))))
 refine W.move rfl rfl ?_
 refine W.splitD (fun g45 => ?_) (fun g45 => ?_)
 have hlt : at_ < D.bs.length := by omega
 refine W.wants rfl rfl rfl rfl (W.move rfl rfl (W.wants rfl rfl rfl rfl (W.move rfl rfl (W.wants rfl rfl rfl rfl ?_))))
 refine W.call Tryz.call30 rfl (Disk.Cut_ok Fd dg rv D (at_ : Nat) _ hDf) rfl ?_
 rintro v48 w48 ⟨rfl, hD48, hC48⟩
 have hSt48 := hStf.chg hC48 fun k hk hd => by
   rcases hFf k hk with h | h
   exact hZd k hd h
   have := hdlt k hd; have := hX17w.size; omega
 have hs48 := hC48.size
 have hFfd : ∀ k, Ff k → w.heap.size ≤ k ∧ ¬ Fd k := fun k hk => by
   have h1 : w.heap.size ≤ k := by
     rcases hFf k hk with h | h
     exact hZn k h
     have := hX17w.size; omega
   exact ⟨h1, fun hd => by have := hdlt k hd; omega⟩
 have hC48w : Chg Fd w w48 := ((hX17w.mono fun _ c => c.elim).news hCf fun k hk => .inr (hZn k hk)).trans hC48
 refine W.wants rfl rfl rfl rfl (W.neqI rfl rfl rfl (W.pickT rfl rfl rfl (W.nil (At.thenCode ?_))))
 refine C.condD rfl (fun c50 => ?_) (fun c50 => ?_)
 have hce : ¬ cutE D (at_ : Nat) = 0 := by omega
 have hob : openB D = ⟨cutD D (at_ : Nat), sb, some at_⟩ := by unfold openB; rw [hfin]; simp only; rw [if_pos hlt, if_neg hce]
 obtain ⟨mg', lg', X', es1, k1, es2, k2, h1, h2, h3, h4, h5⟩ := hSt48.out
 have h1' : Bk w48 g [.pointer (some ⟨dg, 0, none⟩), .map (some mg'), .map (some lg'), .int .i64 (sb.past : Int), .int .i64 (owedI none)] := h1
 refine C.region (W.move rfl rfl (W.move rfl rfl (W.nilCheck rfl rfl (W.fieldB (off := 4) (size := 1) (t := 3) (Fld.of (by kernel_rfl)) rfl rfl rfl ?_))))
 refine W.store1 rfl rfl rfl h1' (by simp) (by kernel_rfl) ?_
 intro wz hCz hBz
 have hStz : St wz Ff g dg sb (some at_) := hSt48.cell hCz (fun mg2 lg2 hB' => by
   have e := Bk.same hB' h1'
   unfold stC at e
   simp only [List.cons.injEq, Value.map.injEq, Option.some.injEq, and_true, true_and] at e
   obtain ⟨rfl, rfl, _⟩ := e
   exact hBz) (fun n hn => by obtain rfl := Option.some.inj hn; omega)
 have hDz := hD48.chg hCz fun k hk hkg => by
   subst hkg
   rcases hk with hk | hk
   exact (hFfd _ hStf.own).2 hk
   have := hStf.lt _ hStf.own; omega
 have hres := Opened.of hob hStz hDz (fun k hk => (hFfd k hk).1) (fun k hk hd => by
   rcases hd with hd | hd
   exact (hFfd k hk).2 hd
   have := hStf.lt k hk; omega) (fun k hk => hk.imp id fun h => by have := hX17w.size; omega) (hC48w.news hCz fun k hk => .inr (by subst hk; exact (hFfd _ hStf.own).1))
 refine W.nil (At.thenCode (C.seq (C.region (W.move rfl rfl (W.assign rfl rfl (W.nil (At.thenCode (C.ret ?_))))))))
 refine At.ret1 Tryz.results9 rfl ?_
 exact ⟨g, rfl, hres⟩
 have hce : cutE D (at_ : Nat) = 0 := by omega
 have hob : openB D = ⟨cutD D (at_ : Nat), sb, none⟩ := by unfold openB; rw [hfin]; simp only; rw [if_pos hlt, if_pos hce]
 have hres := Opened.of hob hSt48 hD48 (fun k hk => (hFfd k hk).1) (fun k hk hd => by
   rcases hd with hd | hd
   exact (hFfd k hk).2 hd
   have := hStf.lt k hk; omega) (fun k hk => hk.imp id fun h => by have := hX17w.size; omega) hC48w
 refine C.skip (At.thenCode (C.seq (C.region (W.move rfl rfl (W.assign rfl rfl (W.nil (At.thenCode (C.ret ?_))))))))
 refine At.ret1 Tryz.results9 rfl ?_
 exact ⟨g, rfl, hres⟩
 have hge : at_ = D.bs.length := by omega
 have hob : openB D = ⟨D, sb, none⟩ := by unfold openB; rw [hfin]; simp only; rw [if_neg (by omega)]
 have hres := Opened.of hob hStf hDf (fun k hk => by
   rcases hFf k hk with h | h
   exact hZn k h
   have := hX17w.size; omega) (fun k hk hd => by
   rcases hFf k hk with h | h
   exact hZd k hd h
   have := hdlt k hd; have := hX17w.size; omega) (fun k hk => .inl hk) ((hX17w.mono fun _ c => c.elim).news hCf fun k hk => .inr (hZn k hk))
 refine W.skips rfl rfl rfl rfl rfl rfl (W.skips rfl rfl rfl rfl rfl rfl (W.skips rfl rfl rfl rfl rfl rfl (W.skips rfl rfl rfl rfl rfl rfl (W.pickF rfl rfl rfl (W.nil (At.thenCode ?_))))))
 refine C.condF rfl ?_
 refine C.skip (At.thenCode (C.seq (C.region (W.move rfl rfl (W.assign rfl rfl (W.nil (At.thenCode (C.ret ?_))))))))
 refine At.ret1 Tryz.results9 rfl ?_
 exact ⟨g, rfl, hres⟩
 have hst : rec1 (D.bs.drop at_) = none := by simpa using g25
 have hfin : scanS ⟨[], 0⟩ D.bs = (sb, at_) := by rw [hscan, scanS_stop (.inl hst)]; rfl
 obtain ⟨Ff, hStf, hFf, hCf⟩ : ∃ Ff : Nat → Prop, St wl Ff g dg sb none ∧ (∀ k, Ff k → Zof g mg lg k ∨ w17.heap.size ≤ k) ∧ Chg (Zof g mg lg) w17 wl := ⟨F1, hSt1, hF1, hCl⟩
 have hDf := hD17.chg hCf hZd
 have hsf := hCf.size
 refine W.skips rfl rfl rfl rfl rfl rfl (W.skips rfl rfl rfl rfl rfl rfl (W.skips rfl rfl rfl rfl rfl rfl (W.pickF rfl rfl rfl (W.nil (At.thenCode ?_)))))
 refine C.condF rfl ?_
 refine C.exit (At.thenExit (At.thenExit (At.blockSelf (At.thenCode (C.seq (C.seq (C.region (W.move rfl rfl (W.move rfl rfl (W.lenS rfl Tryz.underlying22 rfl (W.lssI rfl rfl rfl ?_)))))))))))
 refine W.move rfl rfl ?_
 refine W.splitD (fun g45 => ?_) (fun g45 => ?_)
 have hlt : at_ < D.bs.length := by omega
 refine W.wants rfl rfl rfl rfl (W.move rfl rfl (W.wants rfl rfl rfl rfl (W.move rfl rfl (W.wants rfl rfl rfl rfl ?_))))
 refine W.call Tryz.call30 rfl (Disk.Cut_ok Fd dg rv D (at_ : Nat) _ hDf) rfl ?_
 rintro v48 w48 ⟨rfl, hD48, hC48⟩
 have hSt48 := hStf.chg hC48 fun k hk hd => by
   rcases hFf k hk with h | h
   exact hZd k hd h
   have := hdlt k hd; have := hX17w.size; omega
 have hs48 := hC48.size
 have hFfd : ∀ k, Ff k → w.heap.size ≤ k ∧ ¬ Fd k := fun k hk => by
   have h1 : w.heap.size ≤ k := by
     rcases hFf k hk with h | h
     exact hZn k h
     have := hX17w.size; omega
   exact ⟨h1, fun hd => by have := hdlt k hd; omega⟩
 have hC48w : Chg Fd w w48 := ((hX17w.mono fun _ c => c.elim).news hCf fun k hk => .inr (hZn k hk)).trans hC48
 refine W.wants rfl rfl rfl rfl (W.neqI rfl rfl rfl (W.pickT rfl rfl rfl (W.nil (At.thenCode ?_))))
 refine C.condD rfl (fun c50 => ?_) (fun c50 => ?_)
 have hce : ¬ cutE D (at_ : Nat) = 0 := by omega
 have hob : openB D = ⟨cutD D (at_ : Nat), sb, some at_⟩ := by unfold openB; rw [hfin]; simp only; rw [if_pos hlt, if_neg hce]
 obtain ⟨mg', lg', X', es1, k1, es2, k2, h1, h2, h3, h4, h5⟩ := hSt48.out
 have h1' : Bk w48 g [.pointer (some ⟨dg, 0, none⟩), .map (some mg'), .map (some lg'), .int .i64 (sb.past : Int), .int .i64 (owedI none)] := h1
 refine C.region (W.move rfl rfl (W.move rfl rfl (W.nilCheck rfl rfl (W.fieldB (off := 4) (size := 1) (t := 3) (Fld.of (by kernel_rfl)) rfl rfl rfl ?_))))
 refine W.store1 rfl rfl rfl h1' (by simp) (by kernel_rfl) ?_
 intro wz hCz hBz
 have hStz : St wz Ff g dg sb (some at_) := hSt48.cell hCz (fun mg2 lg2 hB' => by
   have e := Bk.same hB' h1'
   unfold stC at e
   simp only [List.cons.injEq, Value.map.injEq, Option.some.injEq, and_true, true_and] at e
   obtain ⟨rfl, rfl, _⟩ := e
   exact hBz) (fun n hn => by obtain rfl := Option.some.inj hn; omega)
 have hDz := hD48.chg hCz fun k hk hkg => by
   subst hkg
   rcases hk with hk | hk
   exact (hFfd _ hStf.own).2 hk
   have := hStf.lt _ hStf.own; omega
 have hres := Opened.of hob hStz hDz (fun k hk => (hFfd k hk).1) (fun k hk hd => by
   rcases hd with hd | hd
   exact (hFfd k hk).2 hd
   have := hStf.lt k hk; omega) (fun k hk => hk.imp id fun h => by have := hX17w.size; omega) (hC48w.news hCz fun k hk => .inr (by subst hk; exact (hFfd _ hStf.own).1))
 refine W.nil (At.thenCode (C.seq (C.region (W.move rfl rfl (W.assign rfl rfl (W.nil (At.thenCode (C.ret ?_))))))))
 refine At.ret1 Tryz.results9 rfl ?_
 exact ⟨g, rfl, hres⟩
 have hce : cutE D (at_ : Nat) = 0 := by omega
 have hob : openB D = ⟨cutD D (at_ : Nat), sb, none⟩ := by unfold openB; rw [hfin]; simp only; rw [if_pos hlt, if_pos hce]
 have hres := Opened.of hob hSt48 hD48 (fun k hk => (hFfd k hk).1) (fun k hk hd => by
   rcases hd with hd | hd
   exact (hFfd k hk).2 hd
   have := hStf.lt k hk; omega) (fun k hk => hk.imp id fun h => by have := hX17w.size; omega) hC48w
 refine C.skip (At.thenCode (C.seq (C.region (W.move rfl rfl (W.assign rfl rfl (W.nil (At.thenCode (C.ret ?_))))))))
 refine At.ret1 Tryz.results9 rfl ?_
 exact ⟨g, rfl, hres⟩
 have hge : at_ = D.bs.length := by omega
 have hob : openB D = ⟨D, sb, none⟩ := by unfold openB; rw [hfin]; simp only; rw [if_neg (by omega)]
 have hres := Opened.of hob hStf hDf (fun k hk => by
   rcases hFf k hk with h | h
   exact hZn k h
   have := hX17w.size; omega) (fun k hk hd => by
   rcases hFf k hk with h | h
   exact hZd k hd h
   have := hdlt k hd; have := hX17w.size; omega) (fun k hk => .inl hk) ((hX17w.mono fun _ c => c.elim).news hCf fun k hk => .inr (hZn k hk))
 refine W.skips rfl rfl rfl rfl rfl rfl (W.skips rfl rfl rfl rfl rfl rfl (W.skips rfl rfl rfl rfl rfl rfl (W.skips rfl rfl rfl rfl rfl rfl (W.pickF rfl rfl rfl (W.nil (At.thenCode ?_))))))
 refine C.condF rfl ?_
 refine C.skip (At.thenCode (C.seq (C.region (W.move rfl rfl (W.assign rfl rfl (W.nil (At.thenCode (C.ret ?_))))))))
 refine At.ret1 Tryz.results9 rfl ?_
 exact ⟨g, rfl, hres⟩
end Go.Proofs.YthiijdbiikljpaaGreat.Mbx
namespace Go.Proofs.YthiijdbiikljpaaGreat.Mbx
open Go Go.RowKit Go.Proofs.YthiijdbiikljpaaGreat.KW Go.Proofs.YthiijdbiikljpaaGreat.Words Go.Proofs.YthiijdbiikljpaaGreat.Sha Go.Proofs.YthiijdbiikljpaaGreat.RSha Go.Proofs.YthiijdbiikljpaaGreat.Grp Go.Proofs.YthiijdbiikljpaaGreat.Cod Go.Proofs.YthiijdbiikljpaaGreat.Disk
set_option linter.unusedVariables false
set_option linter.unusedSimpArgs false
set_option maxRecDepth 100000
structure Both (F Fd : Nat → Prop) (g dg : Nat) (rv : Int) (B : Box) (w w' : World) : Prop where
  out : ∃ F' Fd' : Nat → Prop, St w' F' g dg B.s B.owed ∧ Dk w' Fd' dg rv B.D ∧ (∀ k, F' k → F k ∨ w.heap.size ≤ k) ∧ (∀ k, Fd' k → Fd k ∨ w.heap.size ≤ k) ∧ (∀ k, F' k → ¬ Fd' k)
  chg : Chg (fun k => F k ∨ Fd k) w w'
theorem Both.same {F Fd : Nat → Prop} {g dg : Nat} {rv : Int} {B B' : Box} {w w' : World} (hb : B' = B) (hS : St w F g dg B.s B.owed) (hD : Dk w Fd dg rv B.D) (hd : ∀ k, F k → ¬ Fd k) (hX : Ext w w') : Both F Fd g dg rv B' w w' := by
 rw [hb]
 exact ⟨⟨F, Fd, hS.ext hX, hD.ext hX, fun k hk => .inl hk, fun k hk => .inl hk, hd⟩, hX.mono fun _ c => c.elim⟩
theorem Both.kept {o : Option Nat} {F Fd : Nat → Prop} {g dg : Nat} {rv : Int} {B B' : Box} {w w1 w' : World} (hb : B' = B) (hX : Ext w w1) (hS : St w F g dg B.s o) (hd : ∀ k, F k → ¬ Fd k) (h : Kept F Fd g dg rv B w1 w') : Both F Fd g dg rv B' w w' := by
 rw [hb]
 obtain ⟨Fd', h1, h2⟩ := h.out
 have hs := hX.size
 refine ⟨⟨F, Fd', h.st, h1, fun k hk => .inl hk, fun k hk => (h2 k hk).imp id fun h => by omega, fun k hk hk' => ?_⟩, (hX.mono fun _ c => c.elim).trans (h.chg.mono fun k hk => ?_)⟩
 rcases h2 k hk' with h3 | h3
 exact hd k hk h3
 have := hS.lt k hk; omega
 rcases hk with rfl | hk
 exact .inl hS.own
 exact .inr hk
theorem Accept_ok (F Fd : Nat → Prop) (g dg : Nat) (rv : Int) (B : Box) (x : BatD) (vi vl : Value) (ap : Option Addr) (cp : Nat) (ps : List Nat) (w : World) (hS : St w F g dg B.s B.owed) (hD : Dk w Fd dg rv B.D) (hd : ∀ k, F k → ¬ Fd k) (hrv : 0 ≤ rv) (hb : BatM (fun k => F k ∨ Fd k) w x vi vl) (hp : Els (fun _ => False) w 10 RPub ap cp ps) (hpl : ps.length ≤ 9223372036854775807) (hbl : (batB x).length ≤ 900000) (hDl : B.D.bs.length ≤ 1000000000) (hsl : B.s.l.length ≤ 1000000000) :
   Ct Tryz.prog 12 #[.pointer (some ⟨g, 0, none⟩), .agg (batC x vi vl).toArray, .slice ap ps.length cp] w (fun v w' => v = .int .i64 (acceptE B x ps : Int) ∧ Both F Fd g dg rv (acceptB B x ps) w w') := by
 obtain ⟨ai, ci, rfl, hU, hUn, hUb⟩ := RNums.form hb.inner
 refine Ct.enter [(0, .pointer (some ⟨g, 0, none⟩)), (1, .agg (batC x (.slice ai x.inner.length ci) vl).toArray), (2, .slice ap ps.length cp)] Tryz.func12 rfl rfl rfl rfl ?_
 refine C.seq (C.region ?_)
 refine W.box (batC x (.slice ai x.inner.length ci) vl) rfl rfl rfl ?_
 intro g4 w4 hg4 hX4 hB4
 refine W.assign rfl rfl (W.nil (At.thenCode (C.seq (C.seq (C.region (W.move rfl rfl ?_))))))
 refine W.loadA rfl (hB4.cells (o := 0)) Tryz.underlying39 rfl (by kernel_rfl) rfl ?_
 rw [List.drop_zero]
 refine W.call Tryz.call34 rfl (Mbx.may_ok F _ g dg B.s B.owed x _ vl _ (hS.ext hX4) (hb.ext hX4)) rfl ?_
 rintro v13 w13 ⟨rfl, hX13⟩
 have hX13w := hX4.ext hX13
 have hB13 := hB4.ext hX13
 refine W.assign rfl rfl (W.nil (At.thenCode (C.seq (C.region (W.move rfl rfl (W.neqI rfl rfl rfl (W.nil (At.thenCode ?_))))))))
 refine C.condD rfl (fun c15 => ?_) (fun c15 => ?_)
 refine C.seq (C.region (W.move rfl rfl (W.assign rfl rfl (W.nil (At.thenCode (C.ret (At.thenRet ?_)))))))
 refine At.ret1 Tryz.results12 rfl ?_
 have hm1 : mayE B.s x ≠ 0 := by omega
 have e1 : acceptE B x ps = mayE B.s x := by unfold acceptE; rw [if_pos hm1]
 have e2 : acceptB B x ps = B := by unfold acceptB; rw [if_pos (.inl hm1)]
 rw [e1]
 exact ⟨rfl, Both.same e2 hS hD hd hX13w⟩
 have hm0 : mayE B.s x = 0 := by omega
 obtain ⟨m1, m2, m3, m4⟩ := mayE_zero hm0
 refine C.skip (At.thenCode (C.seq (C.seq (C.region (W.fieldB (off := 2) (size := 1) (t := 36) (Fld.of (by kernel_rfl)) rfl rfl rfl ?_)))))
 refine W.loadB (v := .slice ai x.inner.length ci) rfl Tryz.underlying36 rfl hB13 rfl rfl ?_
 refine W.move rfl rfl ?_
 refine W.call Tryz.call35 rfl (Mbx.proved_ok ai ci x.inner ap cp ps _ (hU.ext hX13w) hUb (hp.ext rPub hX13w) hb.li hpl) rfl ?_
 rintro v20 w20 ⟨rfl, hX20⟩
 have hX20w := hX13w.ext hX20
 have hB20 := hB13.ext hX20
 refine W.notD rfl rfl ?_
 refine W.nil (At.thenCode ?_)
 refine C.condD rfl (fun c21 => ?_) (fun c21 => ?_)
 have hpr : provedB x.inner ps = false := by simpa [provedB] using c21
 refine C.seq (C.region (W.assign rfl rfl (W.nil (At.thenCode (C.ret (At.thenRet ?_))))))
 refine At.ret1 Tryz.results12 rfl ?_
 have e1 : acceptE B x ps = 10 := by unfold acceptE; rw [if_neg (by omega), if_pos hpr]
 have e2 : acceptB B x ps = B := by unfold acceptB; rw [if_pos (.inr hpr)]
 rw [e1]
 exact ⟨rfl, Both.same e2 hS hD hd hX20w⟩
 have hpr : provedB x.inner ps = true := by simpa [provedB] using c21
 have haE : acceptE B x ps = keepE B (1 :: batB x) := by unfold acceptE; rw [if_neg (by omega), if_neg (by rw [hpr]; decide)]
 refine C.skip (At.thenCode (C.seq (C.region ?_)))
 refine W.loadA rfl (hB20.cells (o := 0)) Tryz.underlying39 rfl (by kernel_rfl) rfl ?_
 rw [List.drop_zero]
 have hb' := (hb.ext hX20w).none
 refine W.call Tryz.call36 rfl (Cod.Batch_ok x _ vl _ hb'.inner hb'.lets hb'.ok hb'.li hb'.ll hb'.lb) rfl ?_
 rintro v24 w24 ⟨a24, c24, rfl, hN24, hX24⟩
 have hB24 := hB20.ext hX24
 have hX24w := hX20w.ext hX24
 refine W.move rfl rfl (W.extract rfl rfl rfl (W.extract rfl rfl rfl (W.assign rfl rfl (W.assign rfl rfl (W.nil (At.thenCode (C.seq (C.seq (C.region (W.move rfl rfl ?_))))))))))
 refine W.litB [1] E8 Tryz.underlying22 rfl rfl rfl rfl rfl ?_
 intro g28 w28 hg28 hX28 ho28 _
 refine W.move rfl rfl ?_
 refine W.appendB (ys := batB x) E8 Tryz.underlying22 rfl rfl ho28 (hN24.1.ext hX28) (by simp; omega) hX28.size rfl ?_
 intro v30 w30 ho30 hg30 _
 have ho30 : Ow w30 w24.heap.size 5 v30 (1 :: batB x) := ho30
 obtain ⟨a30, c30, rfl, hS30, hq30⟩ := ownsRow_form ho30
 have hX30 : Ext w24 w30 := hX28.news (Chg.of_grown hg30) fun k hk => Or.inr ((World.ownsRow.lt ho28 k hk.symm).1)
 have hX30w := hX24w.ext hX30
 have hs30 := hX30.size
 have hs24 := hX24w.size
 refine W.call Tryz.call37 rfl (Mbx.keep_ok F Fd g dg rv B a30 c30 (1 :: batB x) _ (hS.ext hX30w) (hD.ext hX30w) hd hrv hS30 (fun ad e _ hk => by
   have := hq30 ad e
   rcases hk with hk | hk
   have := hS.lt g hS.own; omega
   have := hD.lt _ hk; omega) (by show (batB x).length + 1 ≤ _; omega) hDl) rfl ?_
 rintro v31 w31 ⟨rfl, hK31⟩
 refine W.assign rfl rfl (W.nil (At.thenCode (C.seq (C.region (W.move rfl rfl (W.neqI rfl rfl rfl (W.nil (At.thenCode ?_))))))))
 refine C.condD rfl (fun c33 => ?_) (fun c33 => ?_)
 have hk0 : ¬ keepE B (1 :: batB x) = 0 := by omega
 refine C.seq (C.region (W.move rfl rfl (W.assign rfl rfl (W.nil (At.thenCode (C.ret (At.thenRet ?_)))))))
 refine At.ret1 Tryz.results12 rfl ?_
 have e2 : acceptB B x ps = keepB B (1 :: batB x) := by unfold acceptB; rw [if_neg (by rintro (h | h); exact h hm0; rw [hpr] at h; cases h), if_neg hk0]
 rw [haE]
 exact ⟨rfl, Both.kept e2 hX30w (by rw [keepB_s]; exact hS) hd hK31⟩
 have hk0 : keepE B (1 :: batB x) = 0 := by omega
 have hs31 := hK31.chg.size
 have hB31 : Bk w31 g4 (batC x (.slice ai x.inner.length ci) vl) := (hB24.ext hX30).chg hK31.chg (by
   rintro (h | h)
   have := hS.lt g hS.own; omega
   have := hD.lt _ h; omega)
 obtain ⟨Fd', hD31, hF31, hd31⟩ := hK31.sets (fun k hk => Nat.lt_of_lt_of_le (hS.lt k hk) hX30w.size) hd
 have hS31 := hK31.st
 rw [keepB_s] at hS31
 have hC31 : Chg (fun k => F k ∨ Fd k) w w31 := (hX30w.mono fun _ c => c.elim).trans (hK31.chg.mono fun k hk => hk.imp (fun e => by rw [e]; exact hS.own) id)
 have hb31 : BatM F w31 x (.slice ai x.inner.length ci) vl := (hb.chg hC31).new fun k hk _ => .inl hk
 refine C.skip (At.thenCode (C.seq (C.region (W.move rfl rfl ?_))))
 refine W.loadA rfl (hB31.cells (o := 0)) Tryz.underlying39 rfl (by kernel_rfl) rfl ?_
 rw [List.drop_zero]
 refine W.call Tryz.call38 rfl (Mbx.take_ok F g dg B.s _ x _ vl _ hS31 hb31 m4 m2 hsl) rfl ?_
 rintro v37 w37 ⟨F', hS37, hF1, hF2, hC37⟩
 refine W.nil (At.thenCode (C.seq (C.region (W.assign rfl rfl (W.nil (At.thenCode (C.ret ?_)))))))
 refine At.ret1 Tryz.results12 rfl ?_
 have e2 : acceptB B x ps = ⟨(keepB B (1 :: batB x)).D, takeS B.s x, (keepB B (1 :: batB x)).owed⟩ := by unfold acceptB; rw [if_neg (by rintro (h | h); exact h hm0; rw [hpr] at h; cases h), if_pos hk0]
 rw [haE, hk0, e2]
 have hs37 := hC37.size
 refine ⟨rfl, ⟨F', Fd', hS37, hD31.chg hC37 fun k hk hf => hd31 k hf hk, fun k hk => (hF2 k hk).imp id fun h => by omega, fun k hk => (hF31 k hk).imp id fun h => by omega, fun k hk hk' => ?_⟩, hC31.trans (hC37.mono fun k hk => .inl hk)⟩
 rcases hF2 k hk with h | h
 exact hd31 k h hk'
 have := hD31.lt k hk'; omega
theorem Expire_ok (F Fd : Nat → Prop) (g dg : Nat) (rv : Int) (B : Box) (r : Int) (w : World) (hS : St w F g dg B.s B.owed) (hD : Dk w Fd dg rv B.D) (hd : ∀ k, F k → ¬ Fd k) (hrv : 0 ≤ rv) (hDl : B.D.bs.length ≤ 1000000000) (hsl : B.s.l.length ≤ 1000000000) (hri : InI r) :
   Ct Tryz.prog 14 #[.pointer (some ⟨g, 0, none⟩), .int .i64 r] w (fun v w' => v = .int .i64 (expireE B r : Int) ∧ Both F Fd g dg rv (expireB B r) w w') := by
 obtain ⟨mg, lg, X, es1, c1, es2, c2, h1, h2, h3, h4, h5⟩ := hS.out
 have h1' : Bk w g [.pointer (some ⟨dg, 0, none⟩), .map (some mg), .map (some lg), .int .i64 (B.s.past : Int), .int .i64 (owedI B.owed)] := h1
 refine Ct.enter [(0, .pointer (some ⟨g, 0, none⟩)), (1, .int .i64 r)] Tryz.func14 rfl rfl rfl rfl ?_
 refine C.seq (C.region (W.assign rfl rfl (W.nil (At.thenCode (C.seq (C.seq (C.region (W.move rfl rfl (W.lssI rfl rfl rfl (W.move rfl rfl ?_))))))))))
 refine W.splitD (fun g8 => ?_) (fun g8 => ?_)
 refine W.skips rfl rfl rfl rfl rfl rfl (W.skips rfl rfl rfl rfl rfl rfl (W.pickT rfl rfl rfl (W.nil (At.thenCode ?_))))
 refine C.condT rfl ?_
 refine C.seq (C.region (W.assign rfl rfl (W.nil (At.thenCode (C.ret (At.thenRet ?_))))))
 refine At.ret1 Tryz.results14 rfl ?_
 have e1 : expireE B r = 1 := by unfold expireE; rw [if_pos (by omega)]
 have e2 : expireB B r = B := by unfold expireB; rw [if_pos (by omega)]
 rw [e1]
 exact ⟨rfl, Both.same e2 hS hD hd (Ext.refl _)⟩
 refine W.wants rfl rfl rfl rfl (W.move rfl rfl (W.wants rfl rfl rfl rfl (W.gtrI rfl rfl rfl (W.pickF rfl rfl rfl (W.nil (At.thenCode ?_))))))
 refine C.condD rfl (fun c11 => ?_) (fun c11 => ?_)
 refine C.seq (C.region (W.assign rfl rfl (W.nil (At.thenCode (C.ret (At.thenRet ?_))))))
 refine At.ret1 Tryz.results14 rfl ?_
 have e1 : expireE B r = 1 := by unfold expireE; rw [if_pos (by omega)]
 have e2 : expireB B r = B := by unfold expireB; rw [if_pos (by omega)]
 rw [e1]
 exact ⟨rfl, Both.same e2 hS hD hd (Ext.refl _)⟩
 have hr0 : 0 ≤ r ∧ r ≤ 1099511627776 := by omega
 refine C.skip (At.thenCode (C.seq (C.seq (C.region (W.move rfl rfl (W.move rfl rfl (W.nilCheck rfl rfl (W.fieldB (off := 3) (size := 1) (t := 3) (Fld.of (by kernel_rfl)) rfl rfl rfl ?_))))))))
 refine W.loadB (v := .int .i64 (B.s.past : Int)) rfl Tryz.underlying3 rfl h1' rfl rfl ?_
 refine W.leqI rfl rfl rfl (W.nil (At.thenCode ?_))
 refine C.condD rfl (fun c17 => ?_) (fun c17 => ?_)
 refine C.seq (C.region (W.assign rfl rfl (W.nil (At.thenCode (C.ret (At.thenRet ?_))))))
 refine At.ret1 Tryz.results14 rfl ?_
 have e1 : expireE B r = 0 := by unfold expireE; rw [if_neg (by omega), if_pos c17]
 have e2 : expireB B r = B := by unfold expireB; rw [if_pos (by omega)]
 rw [e1]
 exact ⟨rfl, Both.same e2 hS hD hd (Ext.refl _)⟩
 have hpast : ¬ r ≤ (B.s.past : Int) := c17
 have hrn : ((r.toNat : Nat) : Int) = r := by omega
 have heE : expireE B r = keepE B (2 :: be64 r.toNat) := by unfold expireE; rw [if_neg (by omega), if_neg hpast]
 refine C.skip (At.thenCode (C.seq (C.seq (C.region (W.move rfl rfl ?_)))))
 refine W.litB [2] E8 Tryz.underlying22 rfl rfl rfl rfl rfl ?_
 intro g19 w19 hg19 hX19 ho19 hb19
 refine W.move rfl rfl ?_
 refine W.convIN (M := 18446744073709551616) rfl Tryz.underlying3 Tryz.underlying83 rfl rfl (by omega) rfl ?_
 refine W.call Tryz.call44 rfl (Words.Put64_ok _ _ [2] r.toNat _ hb19 (by simp)) rfl ?_
 rintro v22 w22 ⟨ho22, hX22⟩
 have ho22 : Ow w22 w19.heap.size 5 v22 (2 :: be64 r.toNat) := ho22
 obtain ⟨a22, c22, rfl, hS22, hq22⟩ := ownsRow_form ho22
 have hX22w := hX19.ext hX22
 have hs19 := hX19.size
 refine W.call Tryz.call37 rfl (Mbx.keep_ok F Fd g dg rv B a22 c22 (2 :: be64 r.toNat) _ (hS.ext hX22w) (hD.ext hX22w) hd hrv hS22 (fun ad e _ hk => by
   have := hq22 ad e
   rcases hk with hk | hk
   have := hS.lt g hS.own; omega
   have := hD.lt _ hk; omega) (by show (be64 r.toNat).length + 1 ≤ _; rw [be64_length]; decide) hDl) rfl ?_
 rintro v23 w23 ⟨rfl, hK23⟩
 refine W.assign rfl rfl (W.nil (At.thenCode (C.seq (C.region (W.move rfl rfl (W.neqI rfl rfl rfl (W.nil (At.thenCode ?_))))))))
 refine C.condD rfl (fun c25 => ?_) (fun c25 => ?_)
 have hk0 : ¬ keepE B (2 :: be64 r.toNat) = 0 := by omega
 refine C.seq (C.region (W.move rfl rfl (W.assign rfl rfl (W.nil (At.thenCode (C.ret (At.thenRet ?_)))))))
 refine At.ret1 Tryz.results14 rfl ?_
 have e2 : expireB B r = keepB B (2 :: be64 r.toNat) := by unfold expireB; rw [if_neg (by omega), if_neg hk0]
 rw [heE]
 exact ⟨rfl, Both.kept e2 hX22w (by rw [keepB_s]; exact hS) hd hK23⟩
 have hk0 : keepE B (2 :: be64 r.toNat) = 0 := by omega
 have hs23 := hK23.chg.size
 obtain ⟨Fd', hD23, hF23, hd23⟩ := hK23.sets (fun k hk => Nat.lt_of_lt_of_le (hS.lt k hk) hX22w.size) hd
 have hS23 := hK23.st
 rw [keepB_s] at hS23
 have hC23 : Chg (fun k => F k ∨ Fd k) w w23 := (hX22w.mono fun _ c => c.elim).trans (hK23.chg.mono fun k hk => hk.imp (fun e => by rw [e]; exact hS.own) id)
 refine C.skip (At.thenCode (C.seq (C.region (W.move rfl rfl (W.move rfl rfl ?_)))))
 have hex := Mbx.expire_ok F g dg B.s _ r.toNat _ hS23 (by omega) hsl
 rw [hrn] at hex
 refine W.call Tryz.call45 rfl hex rfl ?_
 rintro v29 w29 ⟨F', hS29, hF1, hF2, hC29⟩
 refine W.nil (At.thenCode (C.seq (C.region (W.assign rfl rfl (W.nil (At.thenCode (C.ret ?_)))))))
 refine At.ret1 Tryz.results14 rfl ?_
 have e2 : expireB B r = ⟨(keepB B (2 :: be64 r.toNat)).D, goneS B.s r.toNat, (keepB B (2 :: be64 r.toNat)).owed⟩ := by unfold expireB; rw [if_neg (by omega), if_pos hk0]
 rw [heE, hk0, e2]
 have hs29 := hC29.size
 have hs22 := hX22w.size
 refine ⟨rfl, ⟨F', Fd', hS29, hD23.chg hC29 fun k hk hf => hd23 k hf hk, fun k hk => (hF2 k hk).imp id fun h => by omega, fun k hk => (hF23 k hk).imp id fun h => by omega, fun k hk hk' => ?_⟩, hC23.trans (hC29.mono fun k hk => .inl hk)⟩
 rcases hF2 k hk with h | h
 exact hd23 k h hk'
 have := hD23.lt k hk'; omega
end Go.Proofs.YthiijdbiikljpaaGreat.Mbx
namespace Go.Proofs.YthiijdbiikljpaaGreat.Mbx
open Go Go.RowKit Go.Proofs.YthiijdbiikljpaaGreat.KW Go.Proofs.YthiijdbiikljpaaGreat.Words Go.Proofs.YthiijdbiikljpaaGreat.Sha Go.Proofs.YthiijdbiikljpaaGreat.RSha Go.Proofs.YthiijdbiikljpaaGreat.Grp Go.Proofs.YthiijdbiikljpaaGreat.Cod Go.Proofs.YthiijdbiikljpaaGreat.Disk
set_option linter.unusedVariables false
set_option linter.unusedSimpArgs false
set_option maxRecDepth 100000
def fetchH (hs : List Hd) (name : List UInt8) (a c : Int) : List Let := (hs.filter fun h => decide (a ≤ h.1) && decide (h.1 ≤ c)).map fun h => (name, h.2)
theorem fetchH_step {hs : List Hd} {i : Nat} (hi : i < hs.length) (name : List UInt8) (a c : Int) : fetchH (hs.take (i + 1)) name a c = fetchH (hs.take i) name a c ++ if a ≤ (hs[i]'hi).1 ∧ (hs[i]'hi).1 ≤ c then [(name, (hs[i]'hi).2)] else [] := by
 unfold fetchH
 rw [List.take_succ_eq_append_getElem hi, List.filter_append, List.map_append]
 congr 1
 by_cases h : a ≤ (hs[i]'hi).1 ∧ (hs[i]'hi).1 ≤ c
 rw [if_pos h]; simp [h.1, h.2]
 rw [if_neg h]
 rcases Classical.em (a ≤ (hs[i]'hi).1) with h1 | h1
 have h2 : ¬ (hs[i]'hi).1 ≤ c := fun h2 => h ⟨h1, h2⟩
 simp [h1, h2]
 simp [h1]
theorem fetchH_len (hs : List Hd) (name : List UInt8) (a c : Int) : (fetchH hs name a c).length ≤ hs.length := by
 unfold fetchH
 rw [List.length_map]
 exact List.length_filter_le _ _
theorem held_body {l : List BatD} {m : Nat} (h : ∀ x ∈ l, ∀ p ∈ x.lets, p.2.length ≤ m) (name : List UInt8) : ∀ y ∈ heldL l name, y.2.length ≤ m := by
 intro y hy
 obtain ⟨x, hx, hy⟩ := List.mem_flatMap.1 hy
 unfold heldX at hy
 obtain ⟨p, hp, rfl⟩ := List.mem_map.1 hy
 have hp := (List.mem_filter.1 hp).1
 exact h x hx p (List.mem_of_mem_take hp)
def LZ : List Value := Z32 ++ [Value.slice none 0 0]
theorem LZ_key {k : List UInt8} (h : k.length = 32) : KW.splice LZ 0 (k.map byteV) = k.map byteV ++ [Value.slice none 0 0] := by
 have := splice_mid (pre := []) (mid := Z32) (post := [Value.slice none 0 0]) (xs := k.map byteV) (by rw [List.length_map, h]; rfl)
 simpa [LZ] using this
theorem LZ_box {k : List UInt8} (h : k.length = 32) (u v : Value) : KW.splice (k.map byteV ++ [u]) 32 [v] = k.map byteV ++ [v] := by
 have := splice_mid (pre := k.map byteV) (mid := [u]) (post := []) (xs := [v]) rfl
 simpa [h] using this
theorem Fetch_ok (F : Nat → Prop) (g dg : Nat) (s : Bag) (o : Option Nat) (name : List UInt8) (a c : Int) (w : World) (hS : St w F g dg s o) (hnl : name.length = 32) (ha : InI a) (hc : InI c) (hsl : s.l.length ≤ 1000000000) :
   Ct Tryz.prog 25 #[.pointer (some ⟨g, 0, none⟩), keyV name, .int .i64 a, .int .i64 c] w (fun v w' => ∃ ao co, v = .slice ao (fetchL s.l name a c).length co ∧ Els (fun k => k < w.heap.size) w' 33 RLet ao co (fetchL s.l name a c) ∧ Ext w w') := by
 obtain ⟨mg, lg, X, es1, c1, es2, c2, h1, h2, h3, h4, h5⟩ := hS.out
 have hlt := hS.lt
 have hold : (heldL s.l name).length ≤ 1000000000000 := by
   have := heldL_len (l := s.l) (m := 1000) (fun y hy => (batE_small (hS.ok.1 y hy).2).2.1) name
   omega
 obtain ⟨lk, hlk⟩ := keyK hnl
 refine Ct.enter [(0, .pointer (some ⟨g, 0, none⟩)), (1, keyV name), (2, .int .i64 a), (3, .int .i64 c)] Tryz.func25 rfl rfl rfl rfl ?_
 refine C.seq (C.region ?_)
 refine W.box (name.map byteV) rfl rfl rfl ?_
 intro g5 w5 hg5 hX5 hB5
 have h1b : Bk w5 g [.pointer (some ⟨dg, 0, none⟩), .map (some mg), .map (some lg), .int .i64 (s.past : Int), .int .i64 (owedI o)] := h1.ext hX5
 have hL5 := h3.keep h4 hX5 (fun _ c => c.elim) (fun c => c)
 have hs5 := hX5.size
 obtain ⟨En, Ck, J, en, hp⟩ := Pre.exist es2 c2 (keyV name) (.slice none 0 0)
 obtain ⟨hrow, hrown⟩ := LM.at hL5 hnl hp
 obtain ⟨ah, ch, hev, hEl, _⟩ := OwE.form rHeld (OwE.new rHeld hrow (B := fun _ => False) (fun _ h => h.elim)) (fun _ _ h => h)
 refine W.assign rfl rfl (W.nil (At.thenCode (C.seq (C.region (W.assign rfl rfl (W.nil (At.thenCode (C.seq (C.seq ?_)))))))))
 refine C.regionAny 8 (E_ (.pointer (some ⟨g, 0, none⟩)) :: E_ (.pointer (some ⟨g, 0, none⟩)) :: E_ (.pointer (some ⟨g, 2, none⟩)) :: E_ (.map (some lg)) :: E_ (keyV name) :: E_ (.slice ah (heldL s.l name).length ch) :: E_ (.int .i64 ((heldL s.l name).length : Int)) :: E_ (.int .i64 0) :: []) [(0, .pointer (some ⟨g, 0, none⟩)), (2, .int .i64 a), (3, .int .i64 c), (5, .pointer (some ⟨g5, 0, none⟩)), (9, .slice none 0 0)] [] (sc rfl (sc rfl (sc rfl (sc rfl (sc rfl (Sub.nil)))))) (Sub.nil) (sc rfl (sc rfl (sc rfl (sc rfl (sc rfl (Sub.nil)))))) (by kernel_rfl) rfl rfl rfl (sN (sN (sN (sN (sN (sN (sN (sN (trivial))))))))) ?_ ?_
 refine And.intro (mB rfl rfl (fun _ => rfl) rfl) ?_
 refine And.intro ?_ ?_
 intro L_ wr hX_ hs_ hf_ hd_
 obtain ⟨_, e0, rfl⟩ := hd_ 0 rfl
 exact W.s1 (e0 _ rfl) (W.nilCheck rfl rfl (W.e0 rfl))
 refine And.intro ?_ ?_
 intro L_ wr hX_ hs_ hf_ hd_
 obtain ⟨_, e1, rfl⟩ := hd_ 1 rfl
 exact W.s1 (e1 _ rfl) (W.fieldB (off := 2) (size := 1) (t := 66) (Fld.of (by kernel_rfl)) rfl rfl rfl (W.e0 rfl))
 refine And.intro ?_ ?_
 intro L_ wr hX_ hs_ hf_ hd_
 obtain ⟨_, e2, rfl⟩ := hd_ 2 rfl
 refine W.s1 (e2 _ rfl) ?_
 refine W.loadB (v := .map (some lg)) rfl Tryz.underlying66 rfl (h1b.ext hX_) rfl rfl ?_
 exact W.e0 rfl
 refine And.intro ?_ ?_
 intro L_ wr hX_ hs_ hf_ hd_
 refine W.s1 (hs_ 5 _ rfl) ?_
 refine W.loadA rfl ((hB5.ext hX_).cells (o := 0)) Tryz.underlying43 rfl (by rw [List.drop_zero, List.length_map, hnl]; kernel_rfl) rfl ?_
 rw [List.drop_zero]
 exact W.e0 rfl
 refine And.intro ?_ ?_
 intro L_ wr hX_ hs_ hf_ hd_
 obtain ⟨_, e3, rfl⟩ := hd_ 3 rfl
 obtain ⟨_, e4, rfl⟩ := hd_ 4 rfl
 refine W.s2 (e3 _ rfl) (e4 _ rfl) ?_
 refine W.lookupM (z := .slice none 0 0) lawK Tryz.underlying66 (by kernel_rfl) rfl rfl (hL5.mp.ext hX_) hlk rfl ?_
 intro rv hrv
 obtain rfl : .slice ah (heldL s.l name).length ch = rv := by
   rw [← hev]
   rcases hrv with ⟨hn, rfl⟩ | ⟨e, he, hk, rfl⟩
   rcases hp.is with ⟨_, rfl, _⟩ | ⟨rfl, _⟩
   rfl
   exact absurd hp.key (hn _ (List.mem_of_getElem? hp.get))
   rcases hp.is with ⟨hn, _⟩ | ⟨rfl, _⟩
   exact absurd hk (hn e he)
   obtain ⟨j, hj⟩ := List.mem_iff_getElem?.1 he
   have := hL5.mp.uniq hj hp.get (hk.trans hp.key.symm)
   subst this
   rw [Option.some.inj (hj.symm.trans hp.get)]
 exact W.e0 rfl
 refine And.intro ?_ ?_
 intro L_ wr hX_ hs_ hf_ hd_
 obtain ⟨_, e5, rfl⟩ := hd_ 5 rfl
 exact W.s1 (e5 _ rfl) (W.lenS rfl Tryz.underlying98 rfl (W.e0 rfl))
 refine And.intro ?_ ?_
 intro L_ wr hX_ hs_ hf_ hd_
 refine W.step [] (Sub.refl _) ?_
 exact W.move rfl rfl (W.e0 rfl)
 exact trivial
 intro L_ wr hX2 hs_ hv_
 obtain ⟨_, e5, rfl⟩ := hv_ 5 (by decide)
 obtain ⟨_, e6, rfl⟩ := hv_ 6 (by decide)
 obtain ⟨_, e7, rfl⟩ := hv_ 7 (by decide)
 refine W.weaken (l' := [(17, _), (18, _), (19, _), (0, _), (2, _), (3, _), (5, _), (9, _)]) (sc (e5 _ rfl) (sc (e6 _ rfl) (sc (e7 _ rfl) (sc (hs_ _ _ rfl) (sc (hs_ _ _ rfl) (sc (hs_ _ _ rfl) (sc (hs_ _ _ rfl) (sc (hs_ _ _ rfl) (Sub.nil))))))))) ?_
 refine W.nil (At.thenCode (C.block ?_))
 refine C.loop (X := Nat × Value) (fun x_ => [(2, .int .i64 a), (3, .int .i64 c), (5, .pointer (some ⟨g5, 0, none⟩)), (9, x_.2), (17, .slice ah (heldL s.l name).length ch), (18, .int .i64 ((heldL s.l name).length : Int)), (19, .int .i64 (x_.1 : Int))]) (fun x_ wl => x_.1 ≤ (heldL s.l name).length ∧ Ext wr wl ∧ OwE (fun k => k < w.heap.size) wl wr.heap.size 58 33 RLet x_.2 (fetchH ((heldL s.l name).take x_.1) name a c)) (fun x_ => (heldL s.l name).length - x_.1) (0, Value.slice none 0 0) (sc rfl (sc rfl (sc rfl (sc rfl (sc rfl (sc rfl (sc rfl (Sub.nil)))))))) ?start1 ?_
 case start1 =>
   show (0) ≤ (heldL s.l name).length ∧ Ext wr _ ∧ OwE (fun k => k < w.heap.size) _ wr.heap.size 58 33 RLet (Value.slice none 0 0) (fetchH ((heldL s.l name).take (0)) name a c)
   exact ⟨by omega, Ext.refl _, OwE.nil _ _ _ _ _ _⟩
 rintro ⟨i, vo⟩ wl hI_
 replace hI_ : i ≤ (heldL s.l name).length ∧ Ext wr wl ∧ OwE (fun k => k < w.heap.size) wl wr.heap.size 58 33 RLet vo (fetchH ((heldL s.l name).take i) name a c) := hI_
 obtain ⟨hi, hXl, hOl⟩ := hI_
 refine C.weaken (l' := [(2, .int .i64 a), (3, .int .i64 c), (5, .pointer (some ⟨g5, 0, none⟩)), (9, vo), (17, .slice ah (heldL s.l name).length ch), (18, .int .i64 ((heldL s.l name).length : Int)), (19, .int .i64 (i : Int))]) (sc rfl (sc rfl (sc rfl (sc rfl (sc rfl (sc rfl (sc rfl (Sub.nil)))))))) ?_
 have hX2w := hX5.ext hX2
 have hEll := (hEl.ext rHeld hX2).ext rHeld hXl
 have hB5l := (hB5.ext hX2).ext hXl
 have hsl' := hXl.size
 have hs2 := hX2w.size
 have hfl := fetchH_len ((heldL s.l name).take i) name a c
 refine C.seq (C.region (W.lssI rfl rfl rfl (W.nil (At.thenCode (C.seq ?_)))))
 refine C.condD rfl (fun c20 => ?_) (fun c20 => ?_)
 have hilt : i < (heldL s.l name).length := by omega
 rw [List.length_take] at hfl
 refine C.skip (At.thenCode (C.seq (C.block (C.seq (C.region ?_)))))
 refine W.indexE EHeld Tryz.underlying98 rfl hEll rfl hilt rfl ?_
 rintro ad21 hc21 hcs21 ⟨vb, rfl, hvb, hin⟩ hl21
 obtain ⟨hd, hhd⟩ : ∃ hd, hd = (heldL s.l name)[i]'hilt := ⟨_, rfl⟩
 rw [← hhd] at hvb hin hcs21
 obtain ⟨ab, cb, rfl, hbs, _⟩ := RByt.form hvb
 refine W.loadA rfl hcs21 Tryz.underlying100 rfl (by kernel_rfl) rfl ?_
 refine W.alloc (z := .agg #[.int .i64 0, .slice none 0 0]) [.int .i64 0, .slice none 0 0] (by kernel_rfl) rfl rfl ?_
 intro g11 w11 hg11 hX11 hB11
 refine W.storeA [.int .i64 hd.1, .slice ab hd.2.length cb] rfl rfl hB11 rfl (by kernel_rfl) (by
   intro u hu
   simp only [List.mem_cons, List.not_mem_nil, or_false] at hu
   rcases hu with rfl | rfl <;> rfl) ?_
 intro w12 hC12 hB12
 have hX12 : Ext wl w12 := hX11.news hC12 fun k hk => Or.inr (by omega)
 have hs12 := hX12.size
 have hO12 := OwE.ext rLet hOl hX12
 have hbl : hd.2.length ≤ 1000000000 := by
   have := held_body (l := s.l) (fun y hy => (batE_small (hS.ok.1 y hy).2).2.2) name hd (by rw [hhd]; exact List.getElem_mem hilt)
   omega
 refine W.nil (At.thenCode (C.seq (C.region (W.fieldB (off := 0) (size := 1) (t := 3) (Fld.of (by kernel_rfl)) rfl rfl rfl ?_))))
 refine W.loadB (v := .int .i64 hd.1) rfl Tryz.underlying3 rfl hB12 rfl rfl ?_
 refine W.move rfl rfl (W.geqI rfl rfl rfl (W.move rfl rfl ?_))
 refine W.splitD (fun g27 => ?_) (fun g27 => ?_)
 refine W.wants rfl rfl rfl rfl (W.fieldB (off := 0) (size := 1) (t := 3) (Fld.of (by kernel_rfl)) rfl rfl rfl (W.wants rfl rfl rfl rfl ?_))
 refine W.loadB (v := .int .i64 hd.1) rfl Tryz.underlying3 rfl hB12 rfl rfl ?_
 refine W.wants rfl rfl rfl rfl (W.move rfl rfl (W.wants rfl rfl rfl rfl (W.leqI rfl rfl rfl (W.pickT rfl rfl rfl (W.nil (At.thenCode ?_))))))
 refine C.condD rfl (fun c32 => ?_) (fun c32 => ?_)
 have hyes : a ≤ hd.1 ∧ hd.1 ≤ c := by omega
 have hno_ := hyes
 refine C.regionAny 7 (E_ (vo) :: E_ (keyV name) :: E_ (.pointer (some ⟨g11, 1, none⟩)) :: E_ (.slice ab hd.2.length cb) :: (fun v w => RByt (fun k => k < w12.heap.size) w [v] hd.2) :: (fun v w => ∃ cs : List Value, v = .agg cs.toArray ∧ RLet (fun k => k < w12.heap.size) w cs (name, hd.2) ∧ cs.length = 33) :: (fun v w => ∃ a c, v = .slice a 1 c ∧ Els (fun k => k < w12.heap.size) w 33 RLet a c [(name, hd.2)]) :: []) [(2, .int .i64 a), (3, .int .i64 c), (5, .pointer (some ⟨g5, 0, none⟩)), (9, vo), (11, .pointer (some ⟨g11, 0, none⟩)), (17, .slice ah (heldL s.l name).length ch), (18, .int .i64 ((heldL s.l name).length : Int)), (19, .int .i64 (i : Int))] [] (sc rfl (sc rfl (sc rfl (sc rfl (sc rfl (sc rfl (sc rfl (sc rfl (Sub.nil))))))))) (Sub.nil) (sc rfl (sc rfl (sc rfl (sc rfl (sc rfl (sc rfl (sc rfl (sc rfl (Sub.nil))))))))) (by kernel_rfl) rfl rfl rfl (sN (sN (sN (sN (sM (fun _ _ _ h g => rByt.ext h g) (sM (fun _ _ _ h g => by obtain ⟨cs, e, h1, q⟩ := h; exact ⟨cs, e, rLet.ext h1 g, q⟩) (sM (fun _ _ _ h g => by obtain ⟨a1, c1, e, h1⟩ := h; exact ⟨a1, c1, e, Els.ext rLet h1 g⟩) (trivial)))))))) ?_ ?_
 refine And.intro (mB rfl rfl (fun _ => rfl) rfl) ?_
 refine And.intro ?_ ?_
 intro L_ wq hX_ hs_ hf_ hd_
 refine W.s1 (hs_ 5 _ rfl) ?_
 refine W.loadA rfl (((hB5l.ext hX12).ext hX_).cells (o := 0)) Tryz.underlying43 rfl (by rw [List.drop_zero, List.length_map, hnl]; kernel_rfl) rfl ?_
 rw [List.drop_zero]
 exact W.e0 rfl
 refine And.intro ?_ ?_
 intro L_ wq hX_ hs_ hf_ hd_
 exact W.s1 (hs_ 11 _ rfl) (W.fieldB (off := 1) (size := 1) (t := 22) (Fld.of (by kernel_rfl)) rfl rfl rfl (W.e0 rfl))
 refine And.intro ?_ ?_
 intro L_ wq hX_ hs_ hf_ hd_
 obtain ⟨_, e2, rfl⟩ := hd_ 2 rfl
 refine W.s1 (e2 _ rfl) ?_
 refine W.loadB (v := .slice ab hd.2.length cb) rfl Tryz.underlying22 rfl (hB12.ext hX_) rfl rfl ?_
 exact W.e0 rfl
 refine And.intro ?_ ?_
 intro L_ wq hX_ hs_ hf_ hd_
 obtain ⟨_, e3, rfl⟩ := hd_ 3 rfl
 refine W.s1 (e3 _ rfl) ?_
 refine W.call Tryz.call54 rfl (Disk.cloneB_ok ab cb hd.2 _ ((hbs.ext hX12).ext hX_) (by omega)) rfl ?_
 rintro v37 w37 ⟨ho37, hX37⟩
 obtain ⟨a37, c37, rfl, hS37, hq37⟩ := ownsRow_form ho37
 exact W.e1 hX37 ⟨a37, c37, rfl, hS37, fun ad e _ hA => by have := hq37 ad e; have := hX_.size; omega⟩
 refine And.intro ?_ ?_
 intro L_ wq hX_ hs_ hf_ hd_
 obtain ⟨_, e1, rfl⟩ := hd_ 1 rfl
 obtain ⟨v4, e4, r4⟩ := hd_ 4 rfl
 obtain ⟨a4, c4, rfl, hb4, hn4⟩ := RByt.form (show RByt (fun k => k < w12.heap.size) _ [_] hd.2 from r4)
 refine W.s2 (e1 _ rfl) (e4 _ rfl) ?_
 refine W.buildS (fs := _) [(0, 32), (32, 1)] (name.map byteV ++ [Value.slice a4 hd.2.length c4]) LZ Tryz.underlying58 (by kernel_rfl) (by kernel_rfl) rfl (by rw [fill_cons (us := name.map byteV) (off := 0) rfl (by rw [List.length_map, hnl]; rfl) (by rw [List.length_map, hnl]; decide), LZ_key hnl, fill_cons (us := [Value.slice a4 hd.2.length c4]) (off := 32) rfl rfl (by simp; omega), LZ_box hnl]; rfl) rfl ?_
 exact W.e0 ⟨_, rfl, ⟨_, rfl, r4, hnl⟩, by simp [hnl]⟩
 refine And.intro ?_ ?_
 intro L_ wq hX_ hs_ hf_ hd_
 obtain ⟨v5, e5, r5⟩ := hd_ 5 rfl
 obtain ⟨cs5, rfl, hR5, hl5⟩ := r5
 refine W.s1 (e5 _ rfl) ?_
 refine W.litS cs5 ELet Tryz.underlying37 rfl hl5 (by decide) rfl ?_
 intro g39 w39 hg39 hX39 _ hs39
 exact W.e1 hX39 ⟨_, _, rfl, Els.lit hs39 (rLet.ext hR5 hX39) (by have := hX_.size; omega)⟩
 exact trivial
 intro L_ wq hX6 hs_ hv_
 obtain ⟨v0, e0, r0⟩ := hv_ 0 (by decide)
 obtain rfl : (vo : Value) = v0 := Eq.symm r0
 obtain ⟨v6, e6, r6⟩ := hv_ 6 (by decide)
 obtain ⟨a6, c6, rfl, hE6⟩ := r6
 refine W.weaken (l' := [(33, _), (39, _), (2, _), (3, _), (5, _), (9, _), (11, _), (17, _), (18, _), (19, _)]) (sc (e0 _ rfl) (sc (e6 _ rfl) (sc (hs_ _ _ rfl) (sc (hs_ _ _ rfl) (sc (hs_ _ _ rfl) (sc (hs_ _ _ rfl) (sc (hs_ _ _ rfl) (sc (hs_ _ _ rfl) (sc (hs_ _ _ rfl) (sc (hs_ _ _ rfl) (Sub.nil))))))))))) ?_
 have hXq := hX6
 have hsq := hXq.size
 have hvlt := fun k hk => (OwE.lt hO12 k hk)
 refine W.appendE (A := fun k => k < w.heap.size) (ys := [(name, hd.2)]) rLet ELet Tryz.underlying37 rfl rfl (OwE.ext rLet hO12 hXq) (Els.new rLet hE6 fun k hk _ => by
   rcases hk with hk | hk
   omega
   exact (hvlt k hk).2) (by simp only [List.length_singleton]; omega) (by simp only [List.length_singleton]; omega) (by omega) rfl ?_
 intro v40 w40 ho40 hg40 hv40
 have hX40 : Ext wr w40 := ((hXl.ext hX12).ext hXq).news (Chg.of_grown hg40) fun k hk => Or.inr (hvlt k hk.symm).1
 refine W.assign rfl rfl (W.nil (At.blockNormal (At.thenCode (C.region ?_))))
 refine W.addI rfl rfl (by omega) rfl ?_
 refine W.move rfl rfl (W.nil ?_)
 refine At.thenRound (i + 1, v40) (sc rfl (sc rfl (sc rfl (sc rfl (sc rfl (sc rfl (sc (look_eq rfl (iV (by omega))) (Sub.nil)))))))) (show (i + 1) ≤ (heldL s.l name).length ∧ Ext wr _ ∧ OwE (fun k => k < w.heap.size) _ wr.heap.size 58 33 RLet (v40) (fetchH ((heldL s.l name).take (i + 1)) name a c) from ?_) (show (heldL s.l name).length - (i + 1) < (heldL s.l name).length - i from ?_)
 refine ⟨by omega, hX40, ?_⟩
 rw [fetchH_step hilt, ← hhd, if_pos hyes]
 exact ho40
 omega
 refine C.skip (At.blockNormal (At.thenCode (C.region ?_)))
 refine W.addI rfl rfl (by omega) rfl ?_
 refine W.move rfl rfl (W.nil ?_)
 have hno2 : ¬ (a ≤ hd.1 ∧ hd.1 ≤ c) := by omega
 refine At.thenRound (i + 1, vo) (sc rfl (sc rfl (sc rfl (sc rfl (sc rfl (sc rfl (sc (look_eq rfl (iV (by omega))) (Sub.nil)))))))) (show (i + 1) ≤ (heldL s.l name).length ∧ Ext wr _ ∧ OwE (fun k => k < w.heap.size) _ wr.heap.size 58 33 RLet (vo) (fetchH ((heldL s.l name).take (i + 1)) name a c) from ?_) (show (heldL s.l name).length - (i + 1) < (heldL s.l name).length - i from ?_)
 refine ⟨by omega, hXl.ext hX12, ?_⟩
 rw [fetchH_step hilt, ← hhd, if_neg hno2, List.append_nil]
 exact hO12
 omega
 refine W.skips rfl rfl rfl rfl rfl rfl (W.skips rfl rfl rfl rfl rfl rfl (W.skips rfl rfl rfl rfl rfl rfl (W.skips rfl rfl rfl rfl rfl rfl (W.pickF rfl rfl rfl (W.nil (At.thenCode ?_))))))
 refine C.condF rfl ?_
 refine C.skip (At.blockNormal (At.thenCode (C.region ?_)))
 refine W.addI rfl rfl (by omega) rfl ?_
 refine W.move rfl rfl (W.nil ?_)
 have hno2 : ¬ (a ≤ hd.1 ∧ hd.1 ≤ c) := by omega
 refine At.thenRound (i + 1, vo) (sc rfl (sc rfl (sc rfl (sc rfl (sc rfl (sc rfl (sc (look_eq rfl (iV (by omega))) (Sub.nil)))))))) (show (i + 1) ≤ (heldL s.l name).length ∧ Ext wr _ ∧ OwE (fun k => k < w.heap.size) _ wr.heap.size 58 33 RLet (vo) (fetchH ((heldL s.l name).take (i + 1)) name a c) from ?_) (show (heldL s.l name).length - (i + 1) < (heldL s.l name).length - i from ?_)
 refine ⟨by omega, hXl.ext hX12, ?_⟩
 rw [fetchH_step hilt, ← hhd, if_neg hno2, List.append_nil]
 exact hO12
 omega
 obtain rfl : i = (heldL s.l name).length := by omega
 rw [List.take_length] at hOl
 refine C.exit (At.thenExit (At.thenExit (At.blockSelf (At.thenCode (C.seq (C.region (W.move rfl rfl (W.assign rfl rfl (W.nil (At.thenCode (C.ret ?_)))))))))))
 refine At.ret1 Tryz.results25 rfl ?_
 have hform := OwE.form rLet (OwE.new rLet hOl (B := fun k => k < w.heap.size) fun k hk _ => .inl hk) (fun k hk hkl => by have := (OwE.lt hOl k hk).1; omega)
 obtain ⟨ao, co, rfl, hEo, _⟩ := hform
 exact ⟨ao, co, rfl, hEo, hX2w.ext hXl⟩
end Go.Proofs.YthiijdbiikljpaaGreat.Mbx
namespace Go.Proofs.YthiijdbiikljpaaGreat.Mbx
open Go Go.RowKit Go.Proofs.YthiijdbiikljpaaGreat.KW Go.Proofs.YthiijdbiikljpaaGreat.Words Go.Proofs.YthiijdbiikljpaaGreat.Sha Go.Proofs.YthiijdbiikljpaaGreat.RSha Go.Proofs.YthiijdbiikljpaaGreat.Grp Go.Proofs.YthiijdbiikljpaaGreat.Cod Go.Proofs.YthiijdbiikljpaaGreat.Disk
set_option linter.unusedVariables false
set_option linter.unusedSimpArgs false
set_option maxRecDepth 100000
def Fr (w0 : World) (Y : Nat → Prop) : Nat → Prop := fun k => ¬ Y k ∧ w0.heap.size ≤ k
structure LiveD (w0 w : World) (Y : Nat → Prop) (dg : Nat) (rv : Int) (D : Dsk) : Prop where
  out : ∃ Fd : Nat → Prop, Dk w Fd dg rv D ∧ ∀ k, Fd k → Fr w0 Y k
  ext : Ext w0 w
  y : ∀ k, Y k → k < w.heap.size
structure Live (w0 w : World) (Y : Nat → Prop) (g dg : Nat) (rv : Int) (B : Box) : Prop where
  out : ∃ F Fd : Nat → Prop, St w F g dg B.s B.owed ∧ Dk w Fd dg rv B.D ∧ (∀ k, F k → ¬ Fd k) ∧ (∀ k, F k → Fr w0 Y k) ∧ ∀ k, Fd k → Fr w0 Y k
  ext : Ext w0 w
  y : ∀ k, Y k → k < w.heap.size
section
variable {w0 w w' : World} {Y : Nat → Prop} {g dg : Nat} {rv : Int} {B : Box} {D : Dsk}
def More (Y : Nat → Prop) (w w' : World) : Nat → Prop := fun k => Y k ∨ (w.heap.size ≤ k ∧ k < w'.heap.size)
theorem Live.more (h : Live w0 w Y g dg rv B) (x : Ext w w') : Live w0 w' (More Y w w') g dg rv B := by
 obtain ⟨F, Fd, h1, h2, h3, h4, h5⟩ := h.out
 have hs := x.size
 refine ⟨⟨F, Fd, h1.ext x, h2.ext x, h3, fun k hk => ⟨fun hy => ?_, (h4 k hk).2⟩, fun k hk => ⟨fun hy => ?_, (h5 k hk).2⟩⟩, h.ext.ext x, fun k hk => ?_⟩
 rcases hy with hy | hy
 exact (h4 k hk).1 hy
 have := h1.lt k hk; omega
 rcases hy with hy | hy
 exact (h5 k hk).1 hy
 have := h2.lt k hk; omega
 rcases hk with hk | hk
 have := h.y k hk; omega
 exact hk.2
theorem Live.both {B' : Box} {F Fd : Nat → Prop} (h : Live w0 w Y g dg rv B) (h4 : ∀ k, F k → Fr w0 Y k) (h5 : ∀ k, Fd k → Fr w0 Y k) (hb : Both F Fd g dg rv B' w w') : Live w0 w' Y g dg rv B' ∧ Chg (Fr w0 Y) w w' := by
 obtain ⟨F', Fd', q1, q2, q3, q4, q5⟩ := hb.out
 have hs := h.ext.size
 have hc : Chg (Fr w0 Y) w w' := hb.chg.mono fun k hk => hk.elim (h4 k) (h5 k)
 have hn : ∀ k, w.heap.size ≤ k → Fr w0 Y k := fun k hk => ⟨fun hy => by have := h.y k hy; omega, by omega⟩
 exact ⟨⟨⟨F', Fd', q1, q2, q5, fun k hk => (q3 k hk).elim (h4 k) (hn k), fun k hk => (q4 k hk).elim (h5 k) (hn k)⟩, h.ext.news hc fun k hk => .inr hk.2, fun k hk => Nat.lt_of_lt_of_le (h.y k hk) hc.size⟩, hc⟩
theorem Live.Accept (h : Live w0 w Y g dg rv B) (hrv : 0 ≤ rv) {x : BatD} {vi vl : Value} {ap : Option Addr} {cp : Nat} {ps : List Nat} (hb : BatM (Fr w0 Y) w x vi vl) (hp : Els (fun _ => False) w 10 RPub ap cp ps) (hpl : ps.length ≤ 9223372036854775807) (hbl : (batB x).length ≤ 900000) (hDl : B.D.bs.length ≤ 1000000000) (hsl : B.s.l.length ≤ 1000000000) :
   Ct Tryz.prog 12 #[.pointer (some ⟨g, 0, none⟩), .agg (batC x vi vl).toArray, .slice ap ps.length cp] w (fun v w' => v = .int .i64 (acceptE B x ps : Int) ∧ Live w0 w' Y g dg rv (acceptB B x ps) ∧ Chg (Fr w0 Y) w w') := by
 obtain ⟨F, Fd, h1, h2, h3, h4, h5⟩ := h.out
 refine (Accept_ok F Fd g dg rv B x vi vl ap cp ps w h1 h2 h3 hrv (hb.new fun k hk _ => hk.elim (h4 k) (h5 k)) hp hpl hbl hDl hsl).mono ?_
 rintro v w' ⟨rfl, hB⟩
 exact ⟨rfl, h.both h4 h5 hB⟩
theorem Live.Len (h : Live w0 w Y g dg rv B) :
   Ct Tryz.prog 24 #[.pointer (some ⟨g, 0, none⟩)] w (fun v w' => v = .int .i64 (B.s.l.length : Int) ∧ w = w') := by
 obtain ⟨F, Fd, h1, _⟩ := h.out
 exact Len_ok F g dg B.s B.owed w h1
theorem Live.Fetch (h : Live w0 w Y g dg rv B) {name : List UInt8} {a c : Int} (hn : name.length = 32) (ha : InI a) (hc : InI c) (hsl : B.s.l.length ≤ 1000000000) :
   Ct Tryz.prog 25 #[.pointer (some ⟨g, 0, none⟩), keyV name, .int .i64 a, .int .i64 c] w (fun v w' => ∃ ao co, v = .slice ao (fetchL B.s.l name a c).length co ∧ Els (fun k => k < w.heap.size) w' 33 RLet ao co (fetchL B.s.l name a c) ∧ Ext w w') := by
 obtain ⟨F, Fd, h1, _⟩ := h.out
 exact Fetch_ok F g dg B.s B.owed name a c w h1 hn ha hc hsl
theorem LiveD.Open (h : LiveD w0 w Y dg rv D) (hl : D.bs.length ≤ 1000000) :
   Ct Tryz.prog 9 #[.pointer (some ⟨dg, 0, none⟩)] w (fun v w' => ∃ g, v = .pointer (some ⟨g, 0, none⟩) ∧ Live w0 w' Y g dg rv (openB D) ∧ Chg (Fr w0 Y) w w') := by
 obtain ⟨Fd, h1, h2⟩ := h.out
 refine (Open_ok Fd dg rv D w h1 hl).mono ?_
 rintro v w' ⟨g, rfl, ho⟩
 obtain ⟨F', Fd', q1, q2, q3, q4, q5⟩ := ho.out
 have hs := h.ext.size
 have hc : Chg (Fr w0 Y) w w' := ho.chg.mono h2
 have hn : ∀ k, w.heap.size ≤ k → Fr w0 Y k := fun k hk => ⟨fun hy => by have := h.y k hy; omega, by omega⟩
 exact ⟨g, rfl, ⟨⟨F', Fd', q1, q2, q4, fun k hk => hn k (q3 k hk), fun k hk => (q5 k hk).elim (h2 k) (hn k)⟩, h.ext.news hc fun k hk => .inr hk.2, fun k hk => Nat.lt_of_lt_of_le (h.y k hk) hc.size⟩, hc⟩
theorem LiveD.New (room : Int) (hx : Ext w0 w) (hY : ∀ k, Y k → k < w.heap.size) (hr : -9223372036854775808 ≤ room ∧ room ≤ 9223372036854775807) :
   Ct Tryz.prog 5 #[.int .i64 room] w (fun v w' => ∃ dg, v = .pointer (some ⟨dg, 0, none⟩) ∧ LiveD w0 w' Y dg (max 0 room) ⟨room.toNat, [], 0, []⟩ ∧ Ext w w') := by
 refine (Disk.New_ok room w hr).mono ?_
 rintro v w' ⟨dg, rfl, hD, hX⟩
 have hs := hx.size
 exact ⟨dg, rfl, ⟨⟨_, hD, fun k hk => by rcases hk with hk | hk; exact hk.elim; exact ⟨fun hy => by have := hY k hy; omega, by omega⟩⟩, hx.ext hX, fun k hk => Nat.lt_of_lt_of_le (hY k hk) hX.size⟩, hX⟩
end
def replay : Bag → List (List UInt8) → Option Bag
  | s, [] => some s
  | s, p :: r => match againS s p with
    | none => none
    | some s' => replay s' r
theorem replay_snoc : ∀ (ps : List (List UInt8)) (s s' s'' : Bag) (p : List UInt8), replay s ps = some s' → againS s' p = some s'' → replay s (ps ++ [p]) = some s''
 | [], s, s', s'', p, h, h' => by
   obtain rfl := Option.some.inj h
   show (match againS s p with | none => none | some s' => replay s' []) = _
   rw [h']; rfl
 | q :: r, s, s', s'', p, h, h' => by
   unfold replay at h
   cases hq : againS s q with
   | none => rw [hq] at h; cases h
   | some s1 =>
     rw [hq] at h
     show (match againS s q with | none => none | some s' => replay s' (r ++ [p])) = _
     rw [hq]
     exact replay_snoc r s1 s' s'' p h h'
def recsB (ps : List (List UInt8)) : List UInt8 := ps.flatMap recB
theorem recsB_snoc (ps : List (List UInt8)) (p : List UInt8) : recsB (ps ++ [p]) = recsB ps ++ recB p := by simp [recsB, List.flatMap_append]
theorem scan_recs : ∀ (ps : List (List UInt8)) (s s' : Bag) (t : List UInt8), (∀ p ∈ ps, p.length < 4294967296) → replay s ps = some s' → scanS s (recsB ps ++ t) = ((scanS s' t).1, (recsB ps).length + (scanS s' t).2)
 | [], s, s', t, _, h => by
   obtain rfl := Option.some.inj h
   show scanS s ([] ++ t) = _
   rw [List.nil_append]
   show _ = (_, 0 + _)
   rw [Nat.zero_add]
 | p :: r, s, s', t, hl, h => by
   unfold replay at h
   cases hp : againS s p with
   | none => rw [hp] at h; cases h
   | some s1 =>
     rw [hp] at h
     have e : recsB (p :: r) ++ t = recB p ++ (recsB r ++ t) := by show (recB p ++ recsB r) ++ t = _; rw [List.append_assoc]
     have h1 := rec1_recB (hl p (by simp)) (recsB r ++ t)
     have hd : (recB p ++ (recsB r ++ t)).drop (12 + p.length) = recsB r ++ t := by
       rw [List.drop_append_of_le_length (by rw [recB_length]; exact Nat.le_refl _), List.drop_of_length_le (by rw [recB_length]; exact Nat.le_refl _), List.nil_append]
     rw [e, scanS_step h1 hp, hd, scan_recs r s1 s' t (fun q hq => hl q (by simp [hq])) h]
     have e2 : (recsB (p :: r)).length = 12 + p.length + (recsB r).length := by
       show (recB p ++ recsB r).length = _
       rw [List.length_append, recB_length]
     rw [e2]
     simp only [Nat.add_assoc]
theorem scanS_nil (s : Bag) : scanS s [] = (s, 0) := scanS_stop (.inl (by unfold rec1; rw [if_pos (by decide)]))
theorem again_accept {s : Bag} {x : BatD} (h : mayE s x = 0) (ho : BatOk x) : againS s (1 :: batB x) = some (takeS s x) := by
 obtain ⟨h1, h2⟩ := bat_read x (mayE_zero h).2.1 ho
 rw [again_1, if_pos ⟨h1, by rw [h2]; exact h⟩, h2]
structure Good (B : Box) (ps : List (List UInt8)) : Prop where
  owed : B.owed = none
  fails : B.D.fails = []
  bytes : B.D.bs = recsB ps
  syn : B.D.syn = B.D.bs.length
  small : ∀ p ∈ ps, p.length < 4294967296
  replay : replay ⟨[], 0⟩ ps = some B.s
theorem open_recs {D : Dsk} {ps : List (List UInt8)} {s : Bag} (hb : D.bs = recsB ps) (hs : ∀ p ∈ ps, p.length < 4294967296) (hr : replay ⟨[], 0⟩ ps = some s) : openB D = ⟨D, s, none⟩ := by
 have h1 : scanS ⟨[], 0⟩ D.bs = (s, D.bs.length) := by
   have := scan_recs ps ⟨[], 0⟩ s [] hs hr
   rw [scanS_nil] at this
   rw [hb]
   simpa using this
 unfold openB
 rw [h1]
 simp
theorem Good.open {B : Box} {ps : List (List UInt8)} (h : Good B ps) : openB B.D = B := by
 rw [open_recs h.bytes h.small h.replay]
 cases B
 simp only [Box.mk.injEq, true_and]
 exact h.owed.symm
theorem Good.new (room : Nat) : openB ⟨room, [], 0, []⟩ = ⟨⟨room, [], 0, []⟩, ⟨[], 0⟩, none⟩ ∧ Good ⟨⟨room, [], 0, []⟩, ⟨[], 0⟩, none⟩ [] := by
 have h : Good ⟨⟨room, [], 0, []⟩, ⟨[], 0⟩, none⟩ [] := ⟨rfl, rfl, rfl, rfl, fun p hp => by simp at hp, rfl⟩
 exact ⟨h.open, h⟩
theorem Good.keep {B : Box} {ps : List (List UInt8)} (h : Good B ps) {p : List UInt8} {s' : Bag} (hp : p.length < 4294967296) (ha : againS B.s p = some s') (hr : B.D.bs.length + 12 + p.length ≤ B.D.room) :
   keepE B p = 0 ∧ Good ⟨(keepB B p).D, s', (keepB B p).owed⟩ (ps ++ [p]) ∧ (keepB B p).D.room = B.D.room ∧ (keepB B p).D.bs.length = B.D.bs.length + 12 + p.length := by
 obtain ⟨⟨room, bs, syn, fails⟩, s, owed⟩ := B
 obtain ⟨h1, h2, h3, h4, h5, h6⟩ := h
 simp only at h1 h2 h3 h4 h6 ha hr
 subst h1; subst h2; subst h4
 have hset : settleE ⟨⟨room, bs, bs.length, []⟩, s, none⟩ = 0 := rfl
 have hsetB : settleB ⟨⟨room, bs, bs.length, []⟩, s, none⟩ = ⟨⟨room, bs, bs.length, []⟩, s, none⟩ := rfl
 have hnf : ¬ Full (⟨room, bs, bs.length, []⟩ : Dsk) (recB p).length := by
   unfold Full; simp only [recB_length]; omega
 have hne : ¬ (failB (⟨room, bs, bs.length, []⟩ : Dsk) = true ∨ Full (⟨room, bs, bs.length, []⟩ : Dsk) (recB p).length) := by
   rintro (h | h)
   cases h
   exact hnf h
 have hae : appE (⟨room, bs, bs.length, []⟩ : Dsk) (recB p) = 0 := by unfold appE; rw [if_neg hne]
 have had : appD (⟨room, bs, bs.length, []⟩ : Dsk) (recB p) = ⟨room, bs ++ recB p, bs.length, []⟩ := by unfold appD; rw [if_neg hne]; rfl
 have hse : synE (⟨room, bs ++ recB p, bs.length, []⟩ : Dsk) = 0 := rfl
 have hsd : synD (⟨room, bs ++ recB p, bs.length, []⟩ : Dsk) = ⟨room, bs ++ recB p, (bs ++ recB p).length, []⟩ := rfl
 have hpe : putE (⟨room, bs, bs.length, []⟩ : Dsk) p = 0 := by unfold putE; rw [if_pos hae, had, hse]
 have hpd : putD (⟨room, bs, bs.length, []⟩ : Dsk) p = ⟨room, bs ++ recB p, (bs ++ recB p).length, []⟩ := by unfold putD; rw [if_pos hae, had, hsd]
 have hke : keepE ⟨⟨room, bs, bs.length, []⟩, s, none⟩ p = 0 := by unfold keepE; rw [if_pos hset, hsetB, hpe]
 have hkb : keepB ⟨⟨room, bs, bs.length, []⟩, s, none⟩ p = ⟨⟨room, bs ++ recB p, (bs ++ recB p).length, []⟩, s, none⟩ := by unfold keepB; rw [if_pos hset, hsetB]; unfold putB; rw [if_pos hpe, hpd]
 rw [hke, hkb]
 refine ⟨rfl, ⟨rfl, rfl, by rw [recsB_snoc, ← h3], rfl, fun q hq => ?_, replay_snoc ps _ _ _ _ h6 ha⟩, rfl, by simp only [List.length_append, recB_length]; omega⟩
 rcases List.mem_append.1 hq with hq | hq
 exact h5 q hq
 obtain rfl := List.mem_singleton.1 hq; exact hp
theorem Good.accept {B : Box} {ps : List (List UInt8)} (h : Good B ps) {x : BatD} {pubs : List Nat} (hm : mayE B.s x = 0) (ho : BatOk x) (hp : provedB x.inner pubs = true) (hl : (batB x).length ≤ 900000) (hr : B.D.bs.length + 13 + (batB x).length ≤ B.D.room) :
   acceptE B x pubs = 0 ∧ Good (acceptB B x pubs) (ps ++ [1 :: batB x]) ∧ (acceptB B x pubs).s = takeS B.s x ∧ (acceptB B x pubs).D.room = B.D.room ∧ (acceptB B x pubs).D.bs.length = B.D.bs.length + 13 + (batB x).length := by
 have hlen : (1 :: batB x).length = (batB x).length + 1 := rfl
 obtain ⟨h1, h2, h3, h4⟩ := h.keep (p := 1 :: batB x) (by omega) (again_accept hm ho) (by omega)
 have e1 : acceptE B x pubs = 0 := by unfold acceptE; rw [if_neg (by omega), if_neg (by rw [hp]; decide), h1]
 have e2 : acceptB B x pubs = ⟨(keepB B (1 :: batB x)).D, takeS B.s x, (keepB B (1 :: batB x)).owed⟩ := by unfold acceptB; rw [if_neg (by rintro (c | c); exact c hm; rw [hp] at c; cases c), if_pos h1]
 rw [e1, e2]
 exact ⟨rfl, h2, rfl, h3, by show (keepB B (1 :: batB x)).D.bs.length = _; omega⟩
end Go.Proofs.YthiijdbiikljpaaGreat.Mbx
