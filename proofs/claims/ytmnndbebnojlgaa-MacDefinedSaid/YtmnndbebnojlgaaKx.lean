/- More operations on bytes: of strings, copies. -/
import Derived.Test.YtmnndbebnojlgaaKa
import Derived.Lib.ConvBytes
import Derived.Lib.AppendStr
import Derived.Laws.IdiomCopy
namespace Go.Proofs.Ytmnndbebnojlgaa.KW
open Go Go.RowKit
set_option linter.unusedVariables false
set_option linter.unusedSimpArgs false
section
variable {P : Program} {N : Nat} {Q : Exit → Act → World → Prop} {l : Env} {w : World} {ops : Array Oper} {rest : List Oper} {d : Tmp} {ty : TypeId} {pos : String} {aft : Array Edge}
variable {x y : Operand} {T T' : TypeId}

/-- []byte(s). -/
theorem W.strBytes {src dst e : TypeId} {u : TypeDesc} {xs : List UInt8} (hs : P.underlying src = some u) (hd : P.underlying dst = some (.slice e)) (he : P.underlying e = some (.int .u8)) (hx : ev l x = some (strV xs)) (hN : Nat.blt d N = true)
    (next : ∀ g c w', g = w.heap.size → Ext w w' → Bs w' (some ⟨g, 0, none⟩) c xs → W P N ops Q rest ((d, .slice (some ⟨g, 0, none⟩) xs.length c) :: l) w') : W P N ops Q (⟨some d, .convert src dst x, ty, pos, aft, none⟩ :: rest) l w := by
  have hsz : (⟨xs.toArray⟩ : ByteArray).size = xs.length := by simp [ByteArray.size]
  refine W.op (v := .slice (some ⟨w.heap.size, 0, none⟩) xs.length (grownCap w xs.length 0 e)) (w' := Lib.bytesWorld w e ⟨xs.toArray⟩) rfl rfl hN (fun a ha => ?_) (next _ _ _ rfl ?_ ?_)
  · have := Lib.run_convert_string_bytes (P := P) w src dst e ⟨xs.toArray⟩ hs hd he
    rw [hsz] at this
    simp only [execOp, ha.ev hx, strV, Sem.run_bind, this, Result.andThen_ok, Sem.run_pure]
  · exact ⟨rfl, rfl, rfl, by rw [Lib.bytesWorld_size]; omega, fun k hk _ => Lib.bytesWorld_at_old w e _ k hk⟩
  · refine ⟨grownCap_ge w xs.length 0 e, by simp, (fun e => by cases e), fun ad ead => ?_⟩
    obtain rfl := Option.some.inj ead
    intro j v hv
    rw [List.getElem?_map] at hv
    obtain ⟨b, hb, rfl⟩ := Option.map_eq_some_iff.1 hv
    have hj := (List.getElem?_eq_some_iff.1 hb).1
    rw [add_mk, Nat.zero_add, Lib.bytesWorld_cell w e ⟨xs.toArray⟩ j (by rw [hsz]; exact hj)]
    simp [List.getD, hb, byteV]
/-- append(b, s...) of a string. -/
theorem W.appendStr {e base : Nat} {v : Value} {xs ys : List UInt8} (hE : Elem P e 1 1 (.int .u8 0)) (hT : P.underlying T = some (.slice e)) (hT' : P.underlying T' = some .string)
    (hx : ev l x = some v) (hy : ev l y = some (strV ys)) (ho : Ow w base e v xs) (hlen : xs.length + ys.length ≤ 70368744177664) (hbase : base ≤ w.heap.size) (hN : Nat.blt d N = true)
    (next : ∀ v' w', Ow w' base e v' (xs ++ ys) → w.grownBy w' v.ownBlock → W P N ops Q rest ((d, v') :: l) w') :
    W P N ops Q (⟨some d, .call ⟨.builtin .append, #[x, y], #[T, T']⟩, ty, pos, aft, none⟩ :: rest) l w := by
  obtain ⟨i, hi, hz, hsz, hby⟩ := hE.out
  have hs : (⟨ys.toArray⟩ : ByteArray).size = ys.length := by simp [ByteArray.size]
  obtain ⟨v', w', hrun, h1, h2, _⟩ := Lib.run_append_own_string (P := P) (w := w) base T T' ty e i hT hT' hi hz hsz hby v xs.length (xs.map byteV) ho ⟨ys.toArray⟩ (by rw [hs]; unfold maxLen; omega) (by rw [hs]; omega) hbase
  have hc : Lib.strCells ⟨ys.toArray⟩ = ys.map byteV := rfl
  rw [hs, hc, ← List.map_append] at h1
  refine W.op (v := v') (w' := w') rfl rfl hN (fun a ha => ?_) (next v' w' (by show World.ownsRow _ _ _ _ _ _ _; rw [List.length_append]; exact h1) h2)
  simp only [execOp, resolve, invoke, builtin, Sem.run_bind, Sem.run_pure, Result.andThen_ok, List.map_toArray, List.map_cons, List.map_nil, ha.ev hx, ha.ev hy, strV, hrun]
/-- copy into a part of an own block. -/
theorem W.copyB {e g o dLen dCap n c k : Nat} {ao : Option Addr} {cs ss : List Value} (hT : P.underlying T = some (.slice e)) (hs1 : (P.info? e).map (·.size) = some 1) (hx : ev l x = some (.slice (some ⟨g, o, none⟩) dLen dCap)) (hy : ev l y = some (.slice ao n c)) (hb : Bk w g cs) (hs : Sl w ao n c 1 ss) (h1 : ∀ u ∈ ss, u.oneCell' = true) (hk : k = Nat.min n dLen) (hl : o + k ≤ cs.length) (hN : Nat.blt d N = true)
    (next : ∀ w', Chg (fun q => q = g) w w' → Bk w' g (splice cs o (ss.take k)) → W P N ops Q rest ((d, .int .i64 (k : Int)) :: l) w') :
    W P N ops Q (⟨some d, .call ⟨.builtin .copy, #[x, y], #[T, T']⟩, ty, pos, aft, none⟩ :: rest) l w := by
  have hn : ss.length = n := by simpa using hs.len
  cases ao with
  | none =>
    have hc0 := hs.nil rfl
    have hle := hs.le
    have hn0 : n = 0 := by omega
    subst hn0
    have hk0 : k = 0 := by rw [hk]; exact Nat.zero_min _
    subst hk0
    have hrun := run_copy_none (P := P) w T T' ty e (some ⟨g, o, none⟩) none dLen dCap 0 c hT hs1 (Nat.zero_min _)
    refine W.op (v := .int .i64 ((0 : Nat) : Int)) (w' := w) rfl rfl hN (fun a ha => ?_) (next w (Chg.refl _ _) (by simpa [splice] using hb))
    simp only [execOp, resolve, invoke, builtin, Sem.run_bind, Sem.run_pure, Result.andThen_ok, List.map_toArray, List.map_cons, List.map_nil, ha.ev hx, ha.ev hy, hrun]
    rfl
  | some ad =>
    have hlk : (ss.take k).length = k := by rw [List.length_take, hn, hk]; exact Nat.min_eq_left (Nat.min_le_left _ _)
    have hrun := run_copy_cells (P := P) w T T' ty e g o dLen dCap ad n c (ss.take k) hT hs1 (by rw [hlk, hk]) ((hs.at_ ad rfl).take k) (fun j hj => by rw [hb.cell (List.getElem?_eq_getElem (by omega))]; rfl) (fun j hj => hb.frozen) (fun u hu => h1 u (List.mem_of_mem_take hu))
    obtain ⟨h2, h3⟩ := Bk.setCells (ss.take k) o w g cs hb
    refine W.op (v := .int .i64 (k : Int)) (w' := w.setCells g o (ss.take k)) rfl rfl hN (fun a ha => ?_) (next _ h3 h2)
    simp only [execOp, resolve, invoke, builtin, Sem.run_bind, Sem.run_pure, Result.andThen_ok, List.map_toArray, List.map_cons, List.map_nil, ha.ev hx, ha.ev hy, hrun, hlk]
    rfl
end
end Go.Proofs.Ytmnndbebnojlgaa.KW
