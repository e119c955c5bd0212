/- More operations on bytes: of strings, copies. -/
import Derived.Test.YthiijdbiikljpaaKa
import Derived.Lib.ConvBytes
import Derived.Lib.AppendStr
import Derived.Laws.IdiomCopy
import Derived.Lib.AppendZerosOnto
import Derived.Laws.Concat
import Derived.Laws.Pointers
namespace Go.Proofs.Ythiijdbiikljpaa.KW
open Go Go.RowKit
set_option linter.unusedVariables false
set_option linter.unusedSimpArgs false
/-- A row of n bytes of which the first i are filled. -/
def fillB (xs : List UInt8) (n i : Nat) : List UInt8 := xs.take i ++ List.replicate (n - i) 0
theorem fillB_set {xs : List UInt8} {n i : Nat} (hx : xs.length = n) (hi : i < n) : (fillB xs n i).set i (xs[i]'(by omega)) = fillB xs n (i + 1) := by
  unfold fillB
  rw [List.set_append_right _ _ (by rw [List.length_take]; omega), List.length_take, show i - min i xs.length = 0 by omega, show n - i = (n - (i + 1)) + 1 by omega, List.replicate_succ, List.set_cons_zero, List.take_succ_eq_append_getElem (by omega), List.append_assoc]
  rfl
theorem fillB_full {xs : List UInt8} {n : Nat} (hx : xs.length = n) : fillB xs n n = xs := by
  unfold fillB; rw [List.take_of_length_le (by omega)]; simp
theorem fillB_zero (xs : List UInt8) (n : Nat) : fillB xs n 0 = List.replicate n 0 := by unfold fillB; simp
theorem fillB_length {xs : List UInt8} {n i : Nat} (hx : xs.length = n) (hi : i ≤ n) : (fillB xs n i).length = n := by
  unfold fillB; rw [List.length_append, List.length_take, List.length_replicate]; omega
theorem fillB_setV {xs : List UInt8} {n i : Nat} (hx : xs.length = n) (hi : i < n) : ((fillB xs n i).map byteV).set i (byteV (xs[i]'(by omega))) = (fillB xs n (i + 1)).map byteV := by
  rw [← List.map_set, fillB_set hx hi]
/-- A row of bytes that is owned begins at the head of a block. -/
theorem own_head {w : World} {base e : Nat} {v : Value} {xs : List UInt8} (h : Ow w base e v xs) : ∃ ao c, v = .slice ao xs.length c ∧ (xs ≠ [] → ∃ g, ao = some ⟨g, 0, none⟩ ∧ base ≤ g ∧ g < w.heap.size) := by
  rcases h.2 with ⟨rfl, hn⟩ | ⟨g, cap, cur, rfl, hb, hg, hnc, hcm, hcs, htake⟩
  · obtain rfl : xs = [] := List.eq_nil_of_length_eq_zero hn
    exact ⟨none, 0, rfl, fun c => absurd rfl c⟩
  · exact ⟨_, _, rfl, fun _ => ⟨g, rfl, hb, (Array.getElem?_eq_some_iff.1 hg).1⟩⟩
theorem zeroCells_u8 (m : Nat) : Builtin.zeroCells (Value.int .u8 0).cells m = (List.replicate m (Value.int .u8 0)).toArray := by
  apply Array.ext'
  simp only [Builtin.zeroCells, Value.cells]
  apply List.ext_getElem?
  intro i
  by_cases hi : i < m
  · simp [hi, Nat.mod_one]
  · simp [hi]
theorem append_zeros_own {P : Program} (w : World) (base : Nat) (t tn ty e : TypeId) (i : TypeInfo) (kq kn : IntKind) (ht : P.underlying t = some (.slice e)) (htn : P.underlying tn = some (.int kn)) (hi : P.info? e = some i) (hz : i.zero = some (.int .u8 0))
    (hsize : i.size = 1) (hby : i.bytes = 1) (v : Value) (n : Nat) (xs : List Value) (hown : w.ownsRow base e 1 v n xs) (m : Nat) (hlim : n + m ≤ 140737488355328) (hbase : base ≤ w.heap.size) :
    ∃ v' w', (Builtin.append_ #[t, tn] ty #[v, .int kq m]).run P w = .ok v' w' ∧ w'.ownsRow base e 1 v' (n + m) (xs ++ List.replicate m (Value.int .u8 0)) ∧ w.grownBy w' v.ownBlock := by
  have h63 : n + m ≤ maxLen := by unfold maxLen; omega
  have hxl : xs.length = n := by simpa using hown.1
  have hlen : (xs ++ List.replicate m (Value.int .u8 0)).length = (n + m) * 1 := by rw [List.length_append, hxl, List.length_replicate, Nat.mul_one]
  have grown : ∀ (old : Nat), old < n + m → ∀ (row : Option Nat),
      (w.drew.alloc (.cells (xs.toArray ++ Builtin.zeroCells (Value.int .u8 0).cells m ++ Builtin.zeroCells (Value.int .u8 0).cells (grownCap w (n + m) old e - (n + m))) e)).ownsRow base e 1
        (.slice (some ⟨w.heap.size, 0, none⟩) (n + m) (grownCap w (n + m) old e)) (n + m) (xs ++ List.replicate m (Value.int .u8 0)) ∧
      w.grownBy (w.drew.alloc (.cells (xs.toArray ++ Builtin.zeroCells (Value.int .u8 0).cells m ++ Builtin.zeroCells (Value.int .u8 0).cells (grownCap w (n + m) old e - (n + m))) e)) row := by
    intro old ho row
    have hge := grownCap_ge w (n + m) old e
    have hcm : grownCap w (n + m) old e ≤ maxLen := grownCap_le_maxLen w (n + m) old e h63
    refine ⟨⟨hlen, .inr ⟨w.heap.size, _, _, rfl, hbase, heap_alloc_new w.drew _, hge, hcm, ?_, ?_⟩⟩, ⟨rfl, rfl, rfl, by simp, fun k hk _ => by first | exact heap_alloc_old w.drew _ hk | exact heap_alloc_old w.drew _ k hk⟩⟩
    · have hz1 : (Value.int IntKind.u8 0).cells.size = 1 := rfl
      simp only [Array.size_append, List.size_toArray, size_zeroCells, hz1, hxl]
      omega
    · rw [zeroCells_u8 m]
      simp only [Array.toList_append, List.append_assoc]
      rw [← List.append_assoc, ← hlen]
      exact List.take_left
  rcases hown.2 with ⟨rfl, rfl⟩ | ⟨g, cap, cur, rfl, hbg, hg, hnc, hcm, hcs, htake⟩
  · have hx : xs = [] := List.eq_nil_of_length_eq_zero hxl
    subst hx
    by_cases hm : m = 0
    · subst hm
      refine ⟨.slice none 0 0, w, ?_, World.ownsRow_nil w base e 1, ⟨rfl, rfl, rfl, Nat.le_refl _, fun _ _ _ => rfl⟩⟩
      have hw : IntKind.i64.wrap (0 : Int) = 0 := by decide
      simp [Builtin.append_, run_underlying ht, run_underlying htn, sizeOf, typeInfo, hi, asInt, asIntOf, hw]
    · have hr := Lib.run_append_nil_zeros (P := P) w t tn ty e i (.int .u8 0) kq kn ht htn hi hz m (by omega) (by omega) (by omega) (by rw [hby]; omega)
      have hgr := grown 0 (by omega) (Value.ownBlock (.slice none 0 0))
      simp only [Nat.zero_add, List.nil_append, Array.empty_append] at hgr ⊢
      exact ⟨_, _, hr, hgr.1, hgr.2⟩
  · by_cases hroom : n + m ≤ cap
    · have hcs' : cur.size = cap := by simpa using hcs
      have hst := run_storeCells_at P g n e (List.replicate m (Value.int .u8 0)) 0 cur w hg (by simp; omega) (fun u hu => by rw [(List.mem_replicate.1 hu).2]; rfl)
      simp only [Nat.add_zero, List.length_replicate] at hst
      have hw : IntKind.i64.wrap (m : Int) = m := by rw [IntKind.wrap_i64]; omega
      have hneg : ¬ ((m : Int) < 0) := by omega
      have h48 : ¬ (281474976710656 < (m : Int)) := by omega
      have hr : (Builtin.append_ #[t, tn] ty #[.slice (some ⟨g, 0, none⟩) n cap, .int kq m]).run P w = .ok (.slice (some ⟨g, 0, none⟩) (n + m) cap) (w.setRow g (cur.toList.take n ++ List.replicate m (Value.int .u8 0) ++ cur.toList.drop (n + m)).toArray) := by
        by_cases hm : m = 0
        · subst hm
          have hw : IntKind.i64.wrap (0 : Int) = 0 := by decide
          simp at hst
          simp [Builtin.append_, run_underlying ht, run_underlying htn, sizeOf, typeInfo, hi, hsize, hby, asInt, asIntOf, hw, hnc, Addr.add_lit, hst]
        · simp [Builtin.append_, run_underlying ht, run_underlying htn, sizeOf, typeInfo, zeroValue, hi, hz, hsize, hby, asInt, asIntOf, hw, hneg, h48, hroom, Addr.add_lit, hm, zeroCells_u8, hst]
      refine ⟨_, _, hr, ⟨hlen, .inr ⟨g, cap, _, rfl, hbg, setRow_heap w g cur _ e _ hg, hroom, hcm, ?_, ?_⟩⟩, ⟨rfl, rfl, rfl, by simp, fun k _ hk => setRow_other w g k _ (fun e => hk (by simp [Value.ownBlock, e]))⟩⟩
      · simp only [List.size_toArray, List.length_append, List.length_take, List.length_drop, Array.length_toList, List.length_replicate]
        omega
      · have ht' : cur.toList.take n = xs := by simpa using htake
        rw [ht', ← hlen]
        exact List.take_left
    · have holds : ∀ j u, xs[j]? = some u → w.cell? ((⟨g, 0, none⟩ : Addr).add j) = some u := hown.cells (g := g) rfl
      have hold := run_firstCells_some (P := P) w.drew i.size n ⟨g, 0, none⟩ n cap xs (by rw [hsize]; simpa using hxl) (by simpa using holds)
      have hr := Lib.run_append_grow_zeros (P := P) w t tn ty e i (.int .u8 0) kq kn ht htn hi hz (some ⟨g, 0, none⟩) n cap xs hold m (by omega) (by omega) (by omega) (by omega) (by rw [hby]; omega) (by rw [hby]; exact growslice_fits (by omega) (by omega))
      have hgr := grown cap (by omega) (Value.ownBlock (.slice (some ⟨g, 0, none⟩) n cap))
      exact ⟨_, _, hr, hgr.1, hgr.2⟩
section
variable {P : Program} {N : Nat} {Q : Exit → Act → World → Prop} {l : Env} {w : World} {ops : Array Oper} {rest : List Oper} {d : Tmp} {ty : TypeId} {pos : String} {aft : Array Edge}
variable {x y : Operand} {T T' : TypeId}

/-- []byte(s). -/
theorem W.strBytes {src dst e : TypeId} {u : TypeDesc} {xs : List UInt8} (hs : P.underlying src = some u) (hd : P.underlying dst = some (.slice e)) (he : P.underlying e = some (.int .u8)) (hx : ev l x = some (strV xs)) (hN : Nat.blt d N = true)
    (next : ∀ g c w', g = w.heap.size → Ext w w' → Bs w' (some ⟨g, 0, none⟩) c xs → W P N ops Q rest ((d, .slice (some ⟨g, 0, none⟩) xs.length c) :: l) w') : W P N ops Q (⟨some d, .convert src dst x, ty, pos, aft, none⟩ :: rest) l w := by
  have hsz : (⟨xs.toArray⟩ : ByteArray).size = xs.length := by simp [ByteArray.size]
  refine W.op (v := .slice (some ⟨w.heap.size, 0, none⟩) xs.length (grownCap w xs.length 0 e)) (w' := Lib.bytesWorld w e ⟨xs.toArray⟩) rfl rfl hN (fun a ha => ?_) (next _ _ _ rfl ?_ ?_)
  · have := Lib.run_convert_string_bytes (P := P) w src dst e ⟨xs.toArray⟩ hs hd he
    rw [hsz] at this
    simp only [execOp, ha.ev hx, strV, Sem.run_bind, this, Result.andThen_ok, Sem.run_pure]
  · exact ⟨rfl, rfl, rfl, by rw [Lib.bytesWorld_size]; omega, fun k hk _ => Lib.bytesWorld_at_old w e _ k hk⟩
  · refine ⟨grownCap_ge w xs.length 0 e, by simp, (fun e => by cases e), fun ad ead => ?_⟩
    obtain rfl := Option.some.inj ead
    intro j v hv
    rw [List.getElem?_map] at hv
    obtain ⟨b, hb, rfl⟩ := Option.map_eq_some_iff.1 hv
    have hj := (List.getElem?_eq_some_iff.1 hb).1
    rw [add_mk, Nat.zero_add, Lib.bytesWorld_cell w e ⟨xs.toArray⟩ j (by rw [hsz]; exact hj)]
    simp [List.getD, hb, byteV]
/-- append(b, s...) of a string. -/
theorem W.appendStr {e base : Nat} {v : Value} {xs ys : List UInt8} (hE : Elem P e 1 1 (.int .u8 0)) (hT : P.underlying T = some (.slice e)) (hT' : P.underlying T' = some .string)
    (hx : ev l x = some v) (hy : ev l y = some (strV ys)) (ho : Ow w base e v xs) (hlen : xs.length + ys.length ≤ 70368744177664) (hbase : base ≤ w.heap.size) (hN : Nat.blt d N = true)
    (next : ∀ v' w', Ow w' base e v' (xs ++ ys) → w.grownBy w' v.ownBlock → W P N ops Q rest ((d, v') :: l) w') :
    W P N ops Q (⟨some d, .call ⟨.builtin .append, #[x, y], #[T, T']⟩, ty, pos, aft, none⟩ :: rest) l w := by
  obtain ⟨i, hi, hz, hsz, hby⟩ := hE.out
  have hs : (⟨ys.toArray⟩ : ByteArray).size = ys.length := by simp [ByteArray.size]
  obtain ⟨v', w', hrun, h1, h2, _⟩ := Lib.run_append_own_string (P := P) (w := w) base T T' ty e i hT hT' hi hz hsz hby v xs.length (xs.map byteV) ho ⟨ys.toArray⟩ (by rw [hs]; unfold maxLen; omega) (by rw [hs]; omega) hbase
  have hc : Lib.strCells ⟨ys.toArray⟩ = ys.map byteV := rfl
  rw [hs, hc, ← List.map_append] at h1
  refine W.op (v := v') (w' := w') rfl rfl hN (fun a ha => ?_) (next v' w' (by show World.ownsRow _ _ _ _ _ _ _; rw [List.length_append]; exact h1) h2)
  simp only [execOp, resolve, invoke, builtin, Sem.run_bind, Sem.run_pure, Result.andThen_ok, List.map_toArray, List.map_cons, List.map_nil, ha.ev hx, ha.ev hy, strV, hrun]
/-- copy into a part of an own block. -/
theorem W.copyB {e g o dLen dCap n c k : Nat} {ao : Option Addr} {cs ss : List Value} (hT : P.underlying T = some (.slice e)) (hs1 : (P.info? e).map (·.size) = some 1) (hx : ev l x = some (.slice (some ⟨g, o, none⟩) dLen dCap)) (hy : ev l y = some (.slice ao n c)) (hb : Bk w g cs) (hs : Sl w ao n c 1 ss) (h1 : ∀ u ∈ ss, u.oneCell' = true) (hk : k = Nat.min n dLen) (hl : o + k ≤ cs.length) (hN : Nat.blt d N = true)
    (next : ∀ w', Chg (fun q => q = g) w w' → Bk w' g (splice cs o (ss.take k)) → W P N ops Q rest ((d, .int .i64 (k : Int)) :: l) w') :
    W P N ops Q (⟨some d, .call ⟨.builtin .copy, #[x, y], #[T, T']⟩, ty, pos, aft, none⟩ :: rest) l w := by
  have hn : ss.length = n := by simpa using hs.len
  cases ao with
  | none =>
    have hc0 := hs.nil rfl
    have hle := hs.le
    have hn0 : n = 0 := by omega
    subst hn0
    have hk0 : k = 0 := by rw [hk]; exact Nat.zero_min _
    subst hk0
    have hrun := run_copy_none (P := P) w T T' ty e (some ⟨g, o, none⟩) none dLen dCap 0 c hT hs1 (Nat.zero_min _)
    refine W.op (v := .int .i64 ((0 : Nat) : Int)) (w' := w) rfl rfl hN (fun a ha => ?_) (next w (Chg.refl _ _) (by simpa [splice] using hb))
    simp only [execOp, resolve, invoke, builtin, Sem.run_bind, Sem.run_pure, Result.andThen_ok, List.map_toArray, List.map_cons, List.map_nil, ha.ev hx, ha.ev hy, hrun]
    rfl
  | some ad =>
    have hlk : (ss.take k).length = k := by rw [List.length_take, hn, hk]; exact Nat.min_eq_left (Nat.min_le_left _ _)
    have hrun := run_copy_cells (P := P) w T T' ty e g o dLen dCap ad n c (ss.take k) hT hs1 (by rw [hlk, hk]) ((hs.at_ ad rfl).take k) (fun j hj => by rw [hb.cell (List.getElem?_eq_getElem (by omega))]; rfl) (fun j hj => hb.frozen) (fun u hu => h1 u (List.mem_of_mem_take hu))
    obtain ⟨h2, h3⟩ := Bk.setCells (ss.take k) o w g cs hb
    refine W.op (v := .int .i64 (k : Int)) (w' := w.setCells g o (ss.take k)) rfl rfl hN (fun a ha => ?_) (next _ h3 h2)
    simp only [execOp, resolve, invoke, builtin, Sem.run_bind, Sem.run_pure, Result.andThen_ok, List.map_toArray, List.map_cons, List.map_nil, ha.ev hx, ha.ev hy, hrun, hlk]
    rfl
/-- append(b, make([]byte, m)...). -/
theorem W.appendN {e base m : Nat} {v : Value} {kq kn : IntKind} {z : Int} {xs : List UInt8} (hE : Elem P e 1 1 (.int .u8 0)) (hT : P.underlying T = some (.slice e)) (hT' : P.underlying T' = some (.int kn))
    (hx : ev l x = some v) (hy : ev l y = some (.int kq z)) (hz : z = (m : Int)) (ho : Ow w base e v xs) (hlen : xs.length + m ≤ 70368744177664) (hbase : base ≤ w.heap.size) (hN : Nat.blt d N = true)
    (next : ∀ v' w', Ow w' base e v' (xs ++ List.replicate m 0) → w.grownBy w' v.ownBlock → W P N ops Q rest ((d, v') :: l) w') :
    W P N ops Q (⟨some d, .call ⟨.builtin .append, #[x, y], #[T, T']⟩, ty, pos, aft, none⟩ :: rest) l w := by
  obtain ⟨i, hi, hz0, hsz, hby⟩ := hE.out
  subst hz
  obtain ⟨v', w', hrun, h1, h2⟩ := append_zeros_own (P := P) w base T T' ty e i kq kn hT hT' hi hz0 hsz hby v xs.length (xs.map byteV) ho m (by omega) hbase
  have e1 : xs.map byteV ++ List.replicate m (Value.int .u8 0) = (xs ++ List.replicate m (0 : UInt8)).map byteV := by rw [List.map_append, List.map_replicate]; rfl
  rw [e1] at h1
  refine W.op (v := v') (w' := w') rfl rfl hN (fun a ha => ?_) (next v' w' (by show World.ownsRow _ _ _ _ _ _ _; rw [List.length_append, List.length_replicate]; exact h1) h2)
  simp only [execOp, resolve, invoke, builtin, Sem.run_bind, Sem.run_pure, Result.andThen_ok, List.map_toArray, List.map_cons, List.map_nil, ha.ev hx, ha.ev hy, hrun]
/-- An array's literal with some of its elements told. -/
theorem W.buildAF {t e n bytes : Nat} {z : Value} {ps : List (Nat × Operand)} {vs : List (Nat × Value)} (cells zs : List Value) (hE : Elem P e 1 bytes z) (hT : P.underlying t = some (.array n e)) (hz : (P.info? t).map (·.zero) = some (some (.agg zs.toArray))) (hp : evps l ps = some vs)
    (hf : Instr.fill (fun i => some (i * 1, 1)) zs.toArray vs = some cells.toArray) (hN : Nat.blt d N = true)
    (next : W P N ops Q rest ((d, .agg cells.toArray) :: l) w) : W P N ops Q (⟨some d, .build t ps.toArray, ty, pos, aft, none⟩ :: rest) l w := by
  obtain ⟨i, hi, hz', hsz, hby⟩ := hE.out
  refine W.op rfl rfl hN (fun a ha => ?_) next
  have hps : (ps.toArray.map fun (i, x) => (i, a.eval x)) = vs.toArray := by
    rw [List.map_toArray]; congr 1; exact ha.evps hp
  cases hq : P.info? t with
  | none => simp [hq] at hz
  | some it =>
    have hs : it.zero = some (.agg zs.toArray) := by simpa [hq] using hz
    simp only [execOp, hps, Instr.build, zeroValue, typeInfo]
    simp [hq, hs, run_underlying hT, sizeOf, typeInfo, hi, hsz, Value.cells]
    simp at hf
    rw [hf]
    rfl
/-- x != y of arrays of bytes. -/
theorem W.neqKey {e n : Nat} {a b : List UInt8} (hT : P.underlying T = some (.array n e)) (he : P.underlying e = some (.int .u8)) (hi : (P.info? e).map (·.size) = some 1) (hx : ev l x = some (.agg (a.map byteV).toArray)) (hy : ev l y = some (.agg (b.map byteV).toArray)) (ha : a.length = n) (hb : b.length = n) (hg : P.eqGuardType P.depth T = false) (hN : Nat.blt d N = true)
    (next : W P N ops Q rest ((d, .bool (decide (¬ a = b))) :: l) w) : W P N ops Q (⟨some d, .binOp .neq T x y T', ty, pos, aft, none⟩ :: rest) l w :=
  W.op rfl rfl hN (fun f hf => by
    have hsz : ∀ w, (sizeOf e).run P w = .ok 1 w := by
      intro w
      cases hq : P.info? e with
      | none => simp [hq] at hi
      | some i =>
        have hs : i.size = 1 := by simpa [hq] using hi
        simp [sizeOf, typeInfo, hq, hs]
    have he' : (eqGuard .neq T x y (.agg (a.map byteV).toArray) (.agg (b.map byteV).toArray)).run P w = .ok () w := by simp [eqGuard, hg]
    have ec : Extern.Stop.cell = byteV := rfl
    have hr : (binOp .neq T (.agg (a.map byteV).toArray) (.agg (b.map byteV).toArray)).run P w = .ok (.bool (decide (¬ a = b))) w := by
      rw [← ec, run_neq_struct, run_equalIn_bytes w 9998 T e n hT he hsz a b ha hb]
      have eb : (!(a == b)) = decide (¬ a = b) := by rw [Bool.eq_iff_iff]; simp
      simp only [Result.andThen_ok, eb]
    simp only [execOp, hf.ev hx, hf.ev hy, he', Sem.run_bind, Sem.run_pure, Result.andThen_ok, hr]) next
/-- The bytes of a constant: a literal that is marked. -/
theorem W.constB {t e g n c : Nat} {cells : List Value} {xs : List UInt8} (hT : P.underlying t = some (.slice e)) (he : P.underlying e = some (.int .u8)) (hx : ev l x = some (.slice (some ⟨g, 0, none⟩) n c)) (hb : Bk w g cells) (hs : Bs w (some ⟨g, 0, none⟩) c xs) (hN : Nat.blt d N = true)
    (next : ∀ w', Chg (fun k => k = g) w w' → Bs w' (some ⟨g, 0, none⟩) c xs → W P N ops Q rest ((d, .slice (some ⟨g, 0, none⟩) n c) :: l) w') : W P N ops Q (⟨some d, .convert t t x, ty, pos, aft, none⟩ :: rest) l w := by
  obtain ⟨e', hg⟩ := hb
  have hlt := (Array.getElem?_eq_some_iff.1 hg).1
  obtain ⟨w', hw'⟩ : ∃ w', w' = w.freeze ⟨g, cells.length, none⟩ 1 := ⟨_, rfl⟩
  have hrun : (convert t t (.slice (some ⟨g, 0, none⟩) n c)).run P w = .ok (.slice (some ⟨g, 0, none⟩) n c) w' := by
    have hsh : w.shape? g = some (e', cells.length) := by simp [World.shape?, hg]
    rw [hw']
    simp [convert, run_underlying hT, run_underlying he, markStringish, hsh]
  have hoth : ∀ k, k ≠ g → w'.heap[k]? = w.heap[k]? := fun k hk => by
    rw [hw']
    unfold World.freeze
    rw [if_neg (by decide)]
    simp [Array.getElem?_modify, Ne.symm hk]
  have hgg : ∃ fz, w'.heap[g]? = some (.cells cells.toArray e' fz) := by
    rw [hw']
    unfold World.freeze
    rw [if_neg (by decide)]
    refine ⟨(cells.length, cells.length + 1), ?_⟩
    simp [Array.getElem?_modify, hg]
  have hsz : w.heap.size ≤ w'.heap.size := by
    rw [hw']
    unfold World.freeze
    rw [if_neg (by decide)]
    simp
  have hchg : Chg (fun k => k = g) w w' := ⟨by rw [hw']; unfold World.freeze; rw [if_neg (by decide)], by rw [hw']; unfold World.freeze; rw [if_neg (by decide)], by rw [hw']; unfold World.freeze; rw [if_neg (by decide)], hsz, fun k _ hk => hoth k hk⟩
  have hcell : ∀ ad : Addr, ad.block = g → w'.cell? ad = w.cell? ad := fun ad e => by
    obtain ⟨fz, hgg⟩ := hgg
    unfold World.cell?
    rw [e, hgg, hg]
  refine W.op (v := .slice (some ⟨g, 0, none⟩) n c) (w' := w') rfl rfl hN (fun a ha => ?_) (next w' hchg ⟨hs.le, hs.len, hs.nil, fun ad e j u hu => ?_⟩)
  · simp only [execOp, ha.ev hx, Sem.run_bind, hrun, Result.andThen_ok, Sem.run_pure]
  · obtain rfl := Option.some.inj e
    rw [hcell _ (by rw [add_block])]
    exact hs.at_ _ rfl j u hu
/-- s + t of strings. -/
theorem W.addStr {a b : List UInt8} (hx : ev l x = some (strV a)) (hy : ev l y = some (strV b)) (hl : a.length + b.length ≤ 9223372036854775807) (hN : Nat.blt d N = true)
    (next : W P N ops Q rest ((d, strV (a ++ b)) :: l) w) : W P N ops Q (⟨some d, .binOp .add T x y T', ty, pos, aft, none⟩ :: rest) l w :=
  W.op rfl rfl hN (fun f ha => by
    have he : (eqGuard .add T x y (strV a) (strV b)) = pure () := by unfold eqGuard; split <;> rfl
    have hr : (binOp .add T (strV a) (strV b)).run P w = .ok (strV (a ++ b)) w := by
      have := run_string_add_sum (P := P) w ⟨a.toArray⟩ ⟨b.toArray⟩ (by simp [ByteArray.size]; omega)
      rw [ByteArray.mk_append_mk] at this
      simp only [binOp, strV]
      exact this
    simp only [execOp, ha.ev hx, ha.ev hy, he, Sem.run_bind, Sem.run_pure, Result.andThen_ok, hr]) next
/-- p == nil of a pointer that is not nil. -/
theorem W.eqlPtr {ad : Addr} (hT : P.underlying T = some (.pointer (P.pointee T))) (hx : ev l x = some (.pointer (some ad))) (hy : ev l y = some (.pointer none)) (hN : Nat.blt d N = true)
    (next : W P N ops Q rest ((d, .bool false) :: l) w) : W P N ops Q (⟨some d, .binOp .eql T x y T', ty, pos, aft, none⟩ :: rest) l w :=
  W.op rfl rfl hN (fun f ha => by
    have he : (eqGuard .eql T x y (.pointer (some ad)) (.pointer none)) = pure () := by unfold eqGuard; split <;> rfl
    simp only [execOp, ha.ev hx, ha.ev hy, he, Sem.run_bind, Sem.run_pure, Result.andThen_ok, run_eql_pointer_nil w T (some ad) hT]
    rfl) next
/-- a[:m] of an array. -/
theorem W.sliceAH {t e n sz bytes g o m : Nat} {z : Value} {oh : Operand} {kk : IntKind} (hE : Elem P e sz bytes z) (hT : P.underlying t = some (.array n e)) (hx : ev l x = some (.pointer (some ⟨g, o, none⟩))) (hh : ev l oh = some (.int kk (m : Int))) (hm : m ≤ n) (h0 : 0 < n) (hN : Nat.blt d N = true)
    (next : W P N ops Q rest ((d, .slice (some ⟨g, o, none⟩) m n) :: l) w) : W P N ops Q (⟨some d, .slice t x none (some oh) none, ty, pos, aft, none⟩ :: rest) l w := by
  obtain ⟨i, hi, hz', hsz, hby⟩ := hE.out
  refine W.op rfl rfl hN (fun a ha => ?_) next
  have b1 : ∀ (code : BoundsCode), (Instr.sliceBound (.int kk (m : Int)) n code).run P w = .ok m w := by
    intro code
    have : (0 : Int) ≤ (m : Int) ∧ (m : Int) ≤ (n : Int) := by omega
    simp [Instr.sliceBound, asIntOf, this]
  have hn0 : ¬ n = 0 := by omega
  simp [execOp, ha.ev hx, ha.ev hh, Instr.sliceAt, run_underlying hT, Instr.sureAddr, Instr.sliceBounds, sizeOf, typeInfo, hi, hsz, add_mk, b1, hn0]
end
end Go.Proofs.Ythiijdbiikljpaa.KW
