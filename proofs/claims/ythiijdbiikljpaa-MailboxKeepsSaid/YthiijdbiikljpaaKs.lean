/- Strings and bytes: conversions and comparisons. -/
import Derived.Test.YthiijdbiikljpaaKh
import Derived.Laws.BytesString
import Derived.Laws.Strings
namespace Go.Proofs.Ythiijdbiikljpaa.KW
open Go Go.RowKit
set_option linter.unusedVariables false
set_option linter.unusedSimpArgs false

/-- A string by its bytes. -/
def strV (xs : List UInt8) : Value := .string ⟨xs.toArray⟩

theorem byteV_eq (b : UInt8) : byteV b = .int .u8 ((b.toNat : Nat) : Int) := rfl
theorem bytes_oneCell (xs : List UInt8) : ∀ u ∈ xs.map byteV, u.oneCell' = true := by
  intro u hu
  obtain ⟨_, _, rfl⟩ := List.mem_map.1 hu
  rfl
theorem get_byte {xs : List UInt8} {i : Nat} (h : i < xs.length) : (xs.map byteV)[i]? = some (.int .u8 (((xs[i]'h).toNat : Nat) : Int)) := by
  rw [List.getElem?_map, List.getElem?_eq_getElem h]; rfl

theorem foldl_push (xs : List UInt8) : ∀ (s : ByteArray), (xs.map fun b => ((b.toNat : Nat) : Int)).foldl (fun r n => r.push (UInt8.ofNat n.toNat)) s = ⟨s.data ++ xs.toArray⟩ := by
  induction xs with
  | nil => intro s; simp
  | cons b r ih =>
    intro s
    simp only [List.map_cons, List.foldl_cons, ih]
    simp [ByteArray.push]

/-- Values with their places. -/
def enum : Nat → List Value → List (Nat × Value)
  | _, [] => []
  | k, u :: r => (k, u) :: enum (k + 1) r
theorem cells_one {u : Value} (h : u.oneCell' = true) : u.cells = #[u] := by cases u <;> first | rfl | (simp [Value.oneCell'] at h)
/-- A row that is filled place by place. -/
theorem fill_enum : ∀ (us zs : List Value) (k : Nat) (done : List Value), (∀ u ∈ us, u.oneCell' = true) → done.length = k → zs.length = us.length →
    Instr.fill (fun i => some (i * 1, 1)) (done ++ zs).toArray (enum k us) = some (done ++ us).toArray := by
  intro us
  induction us with
  | nil =>
    intro zs k done _ _ h
    have : zs = [] := List.eq_nil_of_length_eq_zero (by simpa using h)
    subst this
    simp [enum, Instr.fill]
  | cons u r ih =>
    intro zs k done h1 h2 h3
    obtain ⟨z, zr, rfl⟩ : ∃ z zr, zs = z :: zr := by
      cases zs with
      | nil => simp at h3
      | cons z zr => exact ⟨z, zr, rfl⟩
    have hu := cells_one (h1 u (by simp))
    have hlen : ¬ (k * 1 + 1 > (done ++ z :: zr).toArray.size) := by simp; omega
    have hset : (done ++ z :: zr).toArray.setIfInBounds (k * 1 + 0) u = ((done ++ [u]) ++ zr).toArray := by
      subst h2
      simp [List.set_append]
    simp only [enum, Instr.fill, hu]
    rw [if_neg (by simp; omega)]
    have := ih zr (k + 1) (done ++ [u]) (fun x hx => h1 x (by simp [hx])) (by simp [h2]) (by simpa using h3)
    show Instr.fill _ ((done ++ z :: zr).toArray.setIfInBounds (k * 1 + 0) u) _ = _
    rw [hset, this, List.append_assoc]
    rfl

/-- A value that reads as bytes. -/
def Rep (w : World) (v : Value) (xs : List UInt8) : Prop := ∃ a c, v = .slice a xs.length c ∧ Bs w a c xs
theorem Rep.ext {w w' : World} {v : Value} {xs : List UInt8} (h : Rep w v xs) (g : Ext w w') : Rep w' v xs := by
  obtain ⟨a, c, e, h⟩ := h
  exact ⟨a, c, e, Sl.ext h g⟩
/-- A slice of slices of bytes. -/
def Bss (w : World) (ao : Option Addr) (c : Nat) (ls : List (List UInt8)) : Prop := ∃ vs : List Value, Sl w ao ls.length c 1 vs ∧ ∀ i (h : i < ls.length), ∃ v, vs[i]? = some v ∧ Rep w v (ls[i]'h)
theorem Bss.ext {w w' : World} {ao : Option Addr} {c : Nat} {ls : List (List UInt8)} (h : Bss w ao c ls) (g : Ext w w') : Bss w' ao c ls := by
  obtain ⟨vs, h1, h2⟩ := h
  refine ⟨vs, h1.ext g, fun i hi => ?_⟩
  obtain ⟨v, h3, h4⟩ := h2 i hi
  exact ⟨v, h3, h4.ext g⟩
section
variable {P : Program} {N : Nat} {Q : Exit → Act → World → Prop} {l : Env} {w : World} {ops : Array Oper} {rest : List Oper} {d : Tmp} {ty : TypeId} {pos : String} {aft : Array Edge}
variable {x y : Operand} {T T' : TypeId}

/-- string(b). -/
theorem W.bytesStr {src dst e c : Nat} {ao : Option Addr} {xs : List UInt8} (hs : P.underlying src = some (.slice e)) (he : P.underlying e = some (.int .u8)) (hd : P.underlying dst = some .string) (hx : ev l x = some (.slice ao xs.length c)) (hb : Bs w ao c xs) (hN : Nat.blt d N = true)
    (next : W P N ops Q rest ((d, strV xs) :: l) w) : W P N ops Q (⟨some d, .convert src dst x, ty, pos, aft, none⟩ :: rest) l w := by
  refine W.op (v := strV xs) (w' := w) rfl rfl hN (fun a ha => ?_) next
  have hrun : (convert src dst (.slice ao xs.length c)).run P w = .ok (strV xs) w := by
    rw [run_convert_bytes_string w src dst e _ _ _ hs he hd]
    cases ao with
    | none =>
      have h0 := hb.nil rfl
      have h1 := hb.le
      have : xs = [] := List.eq_nil_of_length_eq_zero (by omega)
      subst this
      rfl
    | some ad =>
      have hc := hb.at_ ad rfl
      have hl : (loadCells ad (xs.map byteV).length).run P w = .ok (xs.map byteV).toArray w := run_loadCells_list w ad (xs.map byteV) hc
      have e1 : xs.map byteV = (xs.map fun b => ((b.toNat : Nat) : Int)).map (Value.int .u8) := by rw [List.map_map]; rfl
      rw [List.length_map, e1] at hl
      rw [run_bytesToString w ad xs.length c _ hl, foldl_push]
      show Result.ok (Value.string ⟨(#[] : Array UInt8) ++ xs.toArray⟩) w = _
      rw [Array.empty_append]
      rfl
  simp only [execOp, ha.ev hx, Sem.run_bind, hrun, Result.andThen_ok, Sem.run_pure]

theorem strV_beq (a b : List UInt8) : ((⟨a.toArray⟩ : ByteArray).toList == (⟨b.toArray⟩ : ByteArray).toList) = decide (a = b) := by
  rw [ByteArray.toList_mk, ByteArray.toList_mk, Bool.eq_iff_iff]; simp
theorem W.eqlStr {a b : List UInt8} (hx : ev l x = some (strV a)) (hy : ev l y = some (strV b)) (hN : Nat.blt d N = true)
    (next : W P N ops Q rest ((d, .bool (decide (a = b))) :: l) w) : W P N ops Q (⟨some d, .binOp .eql T x y T', ty, pos, aft, none⟩ :: rest) l w :=
  W.op rfl rfl hN (fun f ha => by
    have he : (eqGuard .eql T x y (strV a) (strV b)) = pure () := by unfold eqGuard; split <;> rfl
    simp only [execOp, ha.ev hx, ha.ev hy, he, Sem.run_bind, Sem.run_pure, Result.andThen_ok]
    simp only [strV, binOp_string_eql, strV_beq, Sem.run_pure, Result.andThen_ok]) next
theorem W.neqStr {a b : List UInt8} (hx : ev l x = some (strV a)) (hy : ev l y = some (strV b)) (hN : Nat.blt d N = true)
    (next : W P N ops Q rest ((d, .bool (decide (¬ a = b))) :: l) w) : W P N ops Q (⟨some d, .binOp .neq T x y T', ty, pos, aft, none⟩ :: rest) l w :=
  W.op rfl rfl hN (fun f ha => by
    have he : (eqGuard .neq T x y (strV a) (strV b)) = pure () := by unfold eqGuard; split <;> rfl
    simp only [execOp, ha.ev hx, ha.ev hy, he, Sem.run_bind, Sem.run_pure, Result.andThen_ok]
    simp only [strV, binOp_string_neq, strV_beq, Sem.run_pure, Result.andThen_ok]
    simp) next
/-- append of bytes onto bytes that are owned. -/
theorem W.appendB {e base c : Nat} {z v : Value} {ao : Option Addr} {xs ys : List UInt8} (hE : Elem P e 1 1 z) (hT : P.underlying T = some (.slice e))
    (hx : ev l x = some v) (hy : ev l y = some (.slice ao ys.length c)) (ho : Ow w base e v xs) (hs : Bs w ao c ys) (hlen : xs.length + ys.length ≤ 70368744177664) (hbase : base ≤ w.heap.size) (hN : Nat.blt d N = true)
    (next : ∀ v' w', Ow w' base e v' (xs ++ ys) → w.grownBy w' v.ownBlock → (v'.ownBlock = v.ownBlock ∨ ∃ k, v'.ownBlock = some k ∧ w.heap.size ≤ k) → W P N ops Q rest ((d, v') :: l) w') :
    W P N ops Q (⟨some d, .call ⟨.builtin .append, #[x, y], #[T, T]⟩, ty, pos, aft, none⟩ :: rest) l w :=
  W.append hE hT hx hy ho hs (bytes_oneCell ys) (by omega) (by omega) hbase hN fun v' w' h1 h2 h3 => next v' w' (by
    show w'.ownsRow base e 1 v' (xs ++ ys).length ((xs ++ ys).map byteV)
    rw [List.length_append, List.map_append]; exact h1) h2 h3
/-- A literal of bytes. -/
theorem W.litB {t e : Nat} {z : Value} {ps : List (Nat × Operand)} {vs : List (Nat × Value)} (bs : List UInt8) (hE : Elem P e 1 1 z) (hT : P.underlying t = some (.slice e)) (hp : evps l ps = some vs)
    (hv : vs = enum 0 (bs.map byteV)) (hn : Nat.ble bs.length 1000 = true) (h0 : Nat.blt 0 bs.length = true) (hN : Nat.blt d N = true)
    (next : ∀ g w', g = w.heap.size → Ext w w' → Ow w' w.heap.size e (.slice (some ⟨g, 0, none⟩) bs.length bs.length) bs → Bs w' (some ⟨g, 0, none⟩) bs.length bs → W P N ops Q rest ((d, .slice (some ⟨g, 0, none⟩) bs.length bs.length) :: l) w') :
    W P N ops Q (⟨some d, .buildSlice t bs.length ps.toArray, ty, pos, aft, none⟩ :: rest) l w := by
  have hn := Nat.le_of_ble_eq_true hn
  have h0 := lt_of_blt h0
  subst hv
  have hf : Instr.fill (fun i => some (i * 1, 1)) ((Array.range (bs.length * 1)).map (z.cells[· % z.cells.size]!)) (enum 0 (bs.map byteV)) = some (bs.map byteV).toArray := by
    obtain ⟨arr, harr⟩ : ∃ arr, arr = (Array.range (bs.length * 1)).map (z.cells[· % z.cells.size]!) := ⟨_, rfl⟩
    have hsz : arr.size = bs.length := by rw [harr]; simp
    rw [← harr]
    have := fill_enum (bs.map byteV) arr.toList 0 [] (bytes_oneCell bs) rfl (by simp [hsz])
    simpa using this
  refine W.buildSlice hE hT hp hf (by omega) (by simp) (by omega) hN fun g w' hg hx ho => ?_
  have hB : Bs w' (some ⟨g, 0, none⟩) bs.length bs := by
    obtain ⟨ao, c, he, hs, _⟩ := ownsRow_form ho
    injection he with h1 h2 h3
    subst h1; subst h3
    exact hs
  exact next g w' hg hx ho hB
/-- s[i] of a string. -/
theorem W.indexStr {t : TypeId} {s : ByteArray} {k : IntKind} {i : Int} (n : Nat) (hx : ev l x = some (.string s)) (hT : P.underlying t = some .string) (hy : ev l y = some (.int k i)) (hi : i = (n : Int)) (h : n < s.size) (hN : Nat.blt d N = true)
    (next : W P N ops Q rest ((d, .int .u8 (((s[n]'h).toNat : Nat) : Int)) :: l) w) : W P N ops Q (⟨some d, .index t x y, ty, pos, aft, none⟩ :: rest) l w :=
  W.op rfl rfl hN (fun a ha => by
    subst hi
    simp only [execOp, ha.ev hx, ha.ev hy, run_index_string w t s k _ hT, Sem.run_bind, Sem.run_pure]
    rw [dif_pos (by omega)]
    rfl) next
/-- A literal of one-cell elements. -/
theorem W.litV {t e bytes : Nat} {z : Value} {ps : List (Nat × Operand)} {vs : List (Nat × Value)} (cells : List Value) (hE : Elem P e 1 bytes z) (hT : P.underlying t = some (.slice e)) (hp : evps l ps = some vs)
    (hv : vs = enum 0 cells) (h1 : ∀ u ∈ cells, u.oneCell' = true) (hn : Nat.ble cells.length 1000 = true) (h0 : Nat.blt 0 cells.length = true) (hN : Nat.blt d N = true)
    (next : ∀ g w', g = w.heap.size → Ext w w' → w'.ownsRow w.heap.size e 1 (.slice (some ⟨g, 0, none⟩) cells.length cells.length) cells.length cells → Sl w' (some ⟨g, 0, none⟩) cells.length cells.length 1 cells → W P N ops Q rest ((d, .slice (some ⟨g, 0, none⟩) cells.length cells.length) :: l) w') :
    W P N ops Q (⟨some d, .buildSlice t cells.length ps.toArray, ty, pos, aft, none⟩ :: rest) l w := by
  have hn := Nat.le_of_ble_eq_true hn
  have h0 := lt_of_blt h0
  subst hv
  have hf : Instr.fill (fun i => some (i * 1, 1)) ((Array.range (cells.length * 1)).map (z.cells[· % z.cells.size]!)) (enum 0 cells) = some cells.toArray := by
    obtain ⟨arr, harr⟩ : ∃ arr, arr = (Array.range (cells.length * 1)).map (z.cells[· % z.cells.size]!) := ⟨_, rfl⟩
    have hsz : arr.size = cells.length := by rw [harr]; simp
    rw [← harr]
    have := fill_enum cells arr.toList 0 [] h1 rfl (by simp [hsz])
    simpa using this
  refine W.buildSlice hE hT hp hf (by omega) (by simp) (by omega) hN fun g w' hg hx ho => ?_
  obtain ⟨ao, c, he, hs, _⟩ := ownsRow_form ho
  injection he with e1 e2 e3
  subst e1; subst e3
  exact next g w' hg hx ho hs

/-! ### numbers of 64 bits -/
def u64V (n : Nat) : Value := .int .u64 (n : Int)
theorem u64_oneCell (l : List Nat) : ∀ u ∈ l.map u64V, u.oneCell' = true := by
  intro u hu
  obtain ⟨_, _, rfl⟩ := List.mem_map.1 hu
  rfl
abbrev Us (w : World) (ao : Option Addr) (c : Nat) (l : List Nat) : Prop := Sl w ao l.length c 1 (l.map u64V)
theorem get_u64 {l : List Nat} {i : Nat} (h : i < l.length) : (l.map u64V)[i]? = some (.int .u64 ((l[i]'h : Nat) : Int)) := by
  rw [List.getElem?_map, List.getElem?_eq_getElem h]; rfl
/-- append of numbers onto numbers that are owned. -/
theorem W.appendU {e base c : Nat} {z v : Value} {ao : Option Addr} {xs ys : List Nat} (hE : Elem P e 1 8 z) (hT : P.underlying T = some (.slice e))
    (hx : ev l x = some v) (hy : ev l y = some (.slice ao ys.length c)) (ho : w.ownsRow base e 1 v xs.length (xs.map u64V)) (hs : Us w ao c ys) (hlen : xs.length + ys.length ≤ 8796093022208) (hbase : base ≤ w.heap.size) (hN : Nat.blt d N = true)
    (next : ∀ v' w', w'.ownsRow base e 1 v' (xs ++ ys).length ((xs ++ ys).map u64V) → w.grownBy w' v.ownBlock → (v'.ownBlock = v.ownBlock ∨ ∃ k, v'.ownBlock = some k ∧ w.heap.size ≤ k) → W P N ops Q rest ((d, v') :: l) w') :
    W P N ops Q (⟨some d, .call ⟨.builtin .append, #[x, y], #[T, T]⟩, ty, pos, aft, none⟩ :: rest) l w :=
  W.append hE hT hx hy ho hs (u64_oneCell ys) (by omega) (by omega) hbase hN fun v' w' h1 h2 h3 => next v' w' (by
    rw [List.length_append, List.map_append]; exact h1) h2 h3
end
end Go.Proofs.Ythiijdbiikljpaa.KW
