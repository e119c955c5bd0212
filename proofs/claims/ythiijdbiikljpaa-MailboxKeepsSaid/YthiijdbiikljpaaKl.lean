/- Lists whose elements take several cells and may lead on into memory: what cells read as, rows of such that a call owns. -/
import Derived.Test.YthiijdbiikljpaaKe
namespace Go.Proofs.Ythiijdbiikljpaa.KW
open Go Go.RowKit
set_option linter.unusedVariables false
set_option linter.unusedSimpArgs false

/-- What cells read as; none of the memory that is read lies in A. -/
abbrev RdT (α : Type) := (Nat → Prop) → World → List Value → α → Prop
structure RdOk {α : Type} (R : RdT α) : Prop where
  chg : ∀ {A : Nat → Prop} {w w' : World} {cs : List Value} {x : α}, R A w cs x → Chg A w w' → R A w' cs x
  new : ∀ {A B : Nat → Prop} {w : World} {cs : List Value} {x : α}, R A w cs x → (∀ k, B k → k < w.heap.size → A k) → R B w cs x
  one : ∀ {A : Nat → Prop} {w : World} {cs : List Value} {x : α}, R A w cs x → ∀ u ∈ cs, u.oneCell' = true
def RByt : RdT (List UInt8) := fun A w cs xs => ∃ a c, cs = [.slice a xs.length c] ∧ Bs w a c xs ∧ ∀ ad, a = some ad → xs ≠ [] → ¬ A ad.block
def RKey (n : Nat) : RdT (List UInt8) := fun _ _ cs xs => cs = xs.map byteV ∧ xs.length = n
def RNat (k : IntKind) (M : Nat) : RdT Nat := fun _ _ cs x => cs = [.int k (x : Int)] ∧ x < M
def RZ : RdT Int := fun _ _ cs x => cs = [.int .i64 x] ∧ -9223372036854775808 ≤ x ∧ x ≤ 9223372036854775807
def RCat {α β : Type} (R1 : RdT α) (R2 : RdT β) : RdT (α × β) := fun A w cs p => ∃ c1 c2, cs = c1 ++ c2 ∧ R1 A w c1 p.1 ∧ R2 A w c2 p.2
def Els {α : Type} (A : Nat → Prop) (w : World) (sz : Nat) (R : RdT α) (a : Option Addr) (c : Nat) (xs : List α) : Prop :=
  ∃ es, Sl w a xs.length c sz es ∧ (∀ ad, a = some ad → es ≠ [] → ¬ A ad.block) ∧ ∀ i (h : i < xs.length), R A w ((es.drop (i * sz)).take sz) (xs[i]'h)
def RSl {α : Type} (sz : Nat) (R : RdT α) : RdT (List α) := fun A w cs xs => ∃ a c, cs = [.slice a xs.length c] ∧ Els A w sz R a c xs

theorem RByt.form {A : Nat → Prop} {w : World} {v : Value} {xs : List UInt8} (h : RByt A w [v] xs) : ∃ a c, v = .slice a xs.length c ∧ Bs w a c xs ∧ ∀ ad, a = some ad → xs ≠ [] → ¬ A ad.block := by
  obtain ⟨a, c, e, h1, h2⟩ := h
  exact ⟨a, c, by simpa using e, h1, h2⟩
theorem RdOk.ext {α : Type} {R : RdT α} (hR : RdOk R) {A : Nat → Prop} {w w' : World} {cs : List Value} {x : α} (h : R A w cs x) (g : Ext w w') : R A w' cs x := hR.chg h (g.mono fun _ c => c.elim)
theorem rByt : RdOk RByt := by
  refine ⟨?_, ?_, ?_⟩
  · rintro A w w' cs x ⟨a, c, rfl, hs, hn⟩ g
    exact ⟨a, c, rfl, hs.chg g (fun ad e hc => hn ad e (by rintro rfl; exact hc rfl)), hn⟩
  · rintro A B w cs x ⟨a, c, rfl, hs, hn⟩ h
    exact ⟨a, c, rfl, hs, fun ad e hx hB => hn ad e hx (h _ hB (hs.blk e (by simpa using hx)))⟩
  · rintro A w cs x ⟨a, c, rfl, _, _⟩ u hu
    obtain rfl := List.mem_singleton.1 hu
    rfl
theorem rKey (n : Nat) : RdOk (RKey n) := ⟨fun h _ => h, fun h _ => h, by rintro A w cs x ⟨rfl, _⟩; exact bytes_oneCell _⟩
theorem rNat (k : IntKind) (M : Nat) : RdOk (RNat k M) := ⟨fun h _ => h, fun h _ => h, by rintro A w cs x ⟨rfl, _⟩ u hu; obtain rfl := List.mem_singleton.1 hu; rfl⟩
theorem rZ : RdOk RZ := ⟨fun h _ => h, fun h _ => h, by rintro A w cs x ⟨rfl, _⟩ u hu; obtain rfl := List.mem_singleton.1 hu; rfl⟩
theorem rCat {α β : Type} {R1 : RdT α} {R2 : RdT β} (h1 : RdOk R1) (h2 : RdOk R2) : RdOk (RCat R1 R2) := by
  refine ⟨?_, ?_, ?_⟩
  · rintro A w w' cs x ⟨c1, c2, rfl, g1, g2⟩ g
    exact ⟨c1, c2, rfl, h1.chg g1 g, h2.chg g2 g⟩
  · rintro A B w cs x ⟨c1, c2, rfl, g1, g2⟩ h
    exact ⟨c1, c2, rfl, h1.new g1 h, h2.new g2 h⟩
  · rintro A w cs x ⟨c1, c2, rfl, g1, g2⟩ u hu
    rcases List.mem_append.1 hu with hu | hu
    · exact h1.one g1 u hu
    · exact h2.one g2 u hu
theorem RSl.form {α : Type} {R : RdT α} {A : Nat → Prop} {w : World} {sz : Nat} {v : Value} {xs : List α} (h : RSl sz R A w [v] xs) : ∃ a c, v = .slice a xs.length c ∧ Els A w sz R a c xs := by
  obtain ⟨a, c, e, h1⟩ := h
  exact ⟨a, c, by simpa using e, h1⟩
theorem Els.chg {α : Type} {R : RdT α} (hR : RdOk R) {A : Nat → Prop} {w w' : World} {sz c : Nat} {a : Option Addr} {xs : List α} (h : Els A w sz R a c xs) (g : Chg A w w') : Els A w' sz R a c xs := by
  obtain ⟨es, hs, hn, he⟩ := h
  exact ⟨es, hs.chg g hn, hn, fun i hi => hR.chg (he i hi) g⟩
theorem Els.ext {α : Type} {R : RdT α} (hR : RdOk R) {A : Nat → Prop} {w w' : World} {sz c : Nat} {a : Option Addr} {xs : List α} (h : Els A w sz R a c xs) (g : Ext w w') : Els A w' sz R a c xs := h.chg hR (g.mono fun _ c => c.elim)
theorem Els.new {α : Type} {R : RdT α} (hR : RdOk R) {A B : Nat → Prop} {w : World} {sz c : Nat} {a : Option Addr} {xs : List α} (h : Els A w sz R a c xs) (g : ∀ k, B k → k < w.heap.size → A k) : Els B w sz R a c xs := by
  obtain ⟨es, hs, hn, he⟩ := h
  exact ⟨es, hs, fun ad e hc hB => hn ad e hc (g _ hB (hs.blk e hc)), fun i hi => hR.new (he i hi) g⟩
theorem Els.le {α : Type} {R : RdT α} {A : Nat → Prop} {w : World} {sz c : Nat} {a : Option Addr} {xs : List α} (h : Els A w sz R a c xs) : xs.length ≤ c := by obtain ⟨es, hs, _⟩ := h; exact hs.le
theorem rSl {α : Type} {R : RdT α} (sz : Nat) (hR : RdOk R) : RdOk (RSl sz R) := by
  refine ⟨?_, ?_, ?_⟩
  · rintro A w w' cs x ⟨a, c, rfl, h⟩ g
    exact ⟨a, c, rfl, h.chg hR g⟩
  · rintro A B w cs x ⟨a, c, rfl, h⟩ g
    exact ⟨a, c, rfl, h.new hR g⟩
  · rintro A w cs x ⟨a, c, rfl, _⟩ u hu
    obtain rfl := List.mem_singleton.1 hu
    rfl
theorem Els.nil {α : Type} (R : RdT α) (A : Nat → Prop) (w : World) (sz : Nat) : Els A w sz R none 0 [] := ⟨[], Sl.none w sz, (fun ad e => by cases e), fun i h => by simp at h⟩
theorem Els.empty {α : Type} (R : RdT α) (A : Nat → Prop) (w : World) (sz : Nat) (a : Option Addr) (c : Nat) (h : a = none → c = 0) : Els A w sz R a c [] := ⟨[], ⟨Nat.zero_le _, by simp, h, fun ad _ j u hu => by simp at hu⟩, (fun ad _ hc => absurd rfl hc), fun i h => by simp at h⟩
theorem Els.lit {α : Type} {R : RdT α} {A : Nat → Prop} {w : World} {sz g : Nat} {cells : List Value} {x : α} (hs : Sl w (some ⟨g, 0, none⟩) 1 1 sz cells) (hx : R A w cells x) (hA : ¬ A g) : Els A w sz R (some ⟨g, 0, none⟩) 1 [x] := by
  refine ⟨cells, hs, fun ad e _ => by obtain rfl := Option.some.inj e; exact hA, fun i hi => ?_⟩
  obtain rfl : i = 0 := by simp at hi; omega
  have : (cells.drop (0 * sz)).take sz = cells := by rw [Nat.zero_mul, List.drop_zero, List.take_of_length_le (by have := hs.len; omega)]
  rw [this]; exact hx

/-- A row that a call owns, of such elements; what these lead to lies neither in A nor in the row itself. -/
def OwE {α : Type} (A : Nat → Prop) (w : World) (base e sz : Nat) (R : RdT α) (v : Value) (xs : List α) : Prop :=
  ∃ cs, w.ownsRow base e sz v xs.length cs ∧ ∀ i (h : i < xs.length), R (fun k => A k ∨ v.ownBlock = some k) w ((cs.drop (i * sz)).take sz) (xs[i]'h)
theorem OwE.nil {α : Type} (A : Nat → Prop) (w : World) (base e sz : Nat) (R : RdT α) : OwE A w base e sz R (.slice none 0 0) [] := ⟨[], World.ownsRow_nil w base e sz, fun i h => by simp at h⟩
/-- Changes that reach neither the row nor what its elements lead to. -/
theorem OwE.ext {α : Type} {R : RdT α} (hR : RdOk R) {A : Nat → Prop} {w w' : World} {base e sz : Nat} {v : Value} {xs : List α} (h : OwE A w base e sz R v xs) (g : Ext w w') : OwE A w' base e sz R v xs := by
  obtain ⟨cs, ho, he⟩ := h
  exact ⟨cs, ownsRow_ext ho g, fun i hi => hR.ext (he i hi) g⟩
theorem OwE.chg {α : Type} {R : RdT α} (hR : RdOk R) {A : Nat → Prop} {w w' : World} {base e sz : Nat} {v : Value} {xs : List α} (h : OwE A w base e sz R v xs) (g : Chg A w w') (hn : ∀ k, v.ownBlock = some k → ¬ A k) : OwE A w' base e sz R v xs := by
  obtain ⟨cs, ho, he⟩ := h
  exact ⟨cs, ownsRow_chg ho g hn, fun i hi => hR.chg (he i hi) (g.mono fun k hk => Or.inl hk)⟩
theorem OwE.new {α : Type} {R : RdT α} (hR : RdOk R) {A B : Nat → Prop} {w : World} {base e sz : Nat} {v : Value} {xs : List α} (h : OwE A w base e sz R v xs) (g : ∀ k, B k → k < w.heap.size → A k ∨ v.ownBlock = some k) : OwE B w base e sz R v xs := by
  obtain ⟨cs, ho, he⟩ := h
  exact ⟨cs, ho, fun i hi => hR.new (he i hi) fun k hk hl => by rcases hk with hk | hk; exact g k hk hl; exact Or.inr hk⟩
theorem OwE.form {α : Type} {R : RdT α} (hR : RdOk R) {A : Nat → Prop} {w : World} {base e sz : Nat} {v : Value} {xs : List α} (h : OwE A w base e sz R v xs) (hA : ∀ k, v.ownBlock = some k → ¬ A k) : ∃ a c, v = .slice a xs.length c ∧ Els A w sz R a c xs ∧ ∀ ad, a = some ad → base ≤ ad.block := by
  obtain ⟨cs, ho, he⟩ := h
  have hb' : ∀ k, v.ownBlock = some k → ¬ A k := hA
  obtain ⟨a, c, rfl, hs, hb⟩ := ownsRow_form ho
  refine ⟨a, c, rfl, ⟨cs, hs, fun ad e _ => hb' _ ?_, fun i hi => hR.new (he i hi) fun k hk _ => Or.inl hk⟩, hb⟩
  subst e; rfl
theorem OwE.lt {α : Type} {R : RdT α} {A : Nat → Prop} {w : World} {base e sz : Nat} {v : Value} {xs : List α} (h : OwE A w base e sz R v xs) : ∀ k, v.ownBlock = some k → base ≤ k ∧ k < w.heap.size := by
  obtain ⟨cs, ho, he⟩ := h
  intro k hk
  exact World.ownsRow.lt ho k hk
theorem part_left {cs ds : List Value} {i n sz : Nat} (h : cs.length = n * sz) (hi : i < n) : ((cs ++ ds).drop (i * sz)).take sz = (cs.drop (i * sz)).take sz := by
  have h1 : (i + 1) * sz ≤ n * sz := Nat.mul_le_mul_right _ hi
  rw [Nat.succ_mul] at h1
  rw [List.drop_append_of_le_length (by omega), List.take_append_of_le_length (by rw [List.length_drop]; omega)]
theorem part_right {cs ds : List Value} {i n sz : Nat} (h : cs.length = n * sz) (hi : n ≤ i) : ((cs ++ ds).drop (i * sz)).take sz = (ds.drop ((i - n) * sz)).take sz := by
  have h1 : n * sz ≤ i * sz := Nat.mul_le_mul_right _ hi
  rw [List.drop_append, List.drop_of_length_le (by omega), List.nil_append, h, Nat.sub_mul]
section
variable {P : Program} {N : Nat} {Q : Exit → Act → World → Prop} {l : Env} {w : World} {ops : Array Oper} {rest : List Oper} {d : Tmp} {ty : TypeId} {pos : String} {aft : Array Edge}
variable {x y : Operand} {T T' : TypeId}
theorem W.appendE {α : Type} {R : RdT α} {A : Nat → Prop} {e sz bytes base c : Nat} {z v : Value} {ao : Option Addr} {xs ys : List α} (hR : RdOk R) (hE : Elem P e sz bytes z) (hT : P.underlying T = some (.slice e))
    (hx : ev l x = some v) (hy : ev l y = some (.slice ao ys.length c)) (ho : OwE A w base e sz R v xs) (hs : Els (fun k => A k ∨ v.ownBlock = some k) w sz R ao c ys) (hlen : (xs.length + ys.length) * bytes ≤ 140737488355328) (hlen2 : xs.length + ys.length ≤ 140737488355328) (hbase : base ≤ w.heap.size) (hN : Nat.blt d N = true)
    (next : ∀ v' w', OwE A w' base e sz R v' (xs ++ ys) → w.grownBy w' v.ownBlock → (v'.ownBlock = v.ownBlock ∨ ∃ k, v'.ownBlock = some k ∧ w.heap.size ≤ k) → W P N ops Q rest ((d, v') :: l) w') :
    W P N ops Q (⟨some d, .call ⟨.builtin .append, #[x, y], #[T, T]⟩, ty, pos, aft, none⟩ :: rest) l w := by
  obtain ⟨cs, hown, he⟩ := ho
  obtain ⟨es, hsl, hn, hes⟩ := hs
  have h1 : ∀ u ∈ es, u.oneCell' = true := by
    intro u hu
    obtain ⟨j, hj, rfl⟩ := List.getElem_of_mem hu
    have hpos := hE.pos
    have hlen' := hsl.len
    have hi : j / sz < ys.length := Nat.div_lt_of_lt_mul (by rw [Nat.mul_comm, ← hlen']; exact hj)
    have h2 := hes (j / sz) hi
    refine hR.one h2 _ ?_
    have h3 : ((es.drop (j / sz * sz)).take sz)[j % sz]? = some es[j] := by
      rw [List.getElem?_take, if_pos (Nat.mod_lt _ hpos), List.getElem?_drop]
      have : j / sz * sz + j % sz = j := by rw [Nat.mul_comm]; exact Nat.div_add_mod j sz
      rw [this]; exact List.getElem?_eq_getElem hj
    exact List.mem_of_getElem? h3
  refine W.append hE hT hx hy hown hsl h1 hlen hlen2 hbase hN fun v' w' h2 h3 h4 => next v' w' ⟨cs ++ es, by rw [List.length_append]; exact h2, fun i hi => ?_⟩ h3 h4
  have hC : Chg (fun k => v.ownBlock = some k) w w' := (Chg.of_grown h3).mono fun k hk => hk.symm
  have step : ∀ (c0 : List Value) (a : α), R (fun k => A k ∨ v.ownBlock = some k) w c0 a → R (fun k => A k ∨ v'.ownBlock = some k) w' c0 a := by
    intro c0 a ha
    have hb : R (fun k => A k ∨ v.ownBlock = some k ∨ w.heap.size ≤ k) w c0 a := hR.new ha fun k hk hlt => by
      rcases hk with hk | hk | hk
      · exact Or.inl hk
      · exact Or.inr hk
      · omega
    have hc : R (fun k => A k ∨ v.ownBlock = some k ∨ w.heap.size ≤ k) w' c0 a := hR.chg hb (hC.mono fun k hk => Or.inr (Or.inl hk))
    refine hR.new hc fun k hk _ => ?_
    rcases hk with hk | hk
    · exact Or.inl hk
    rcases h4 with h4 | ⟨k', h4, h5⟩
    · exact Or.inr (Or.inl (by rw [← h4]; exact hk))
    · rw [h4] at hk; obtain rfl := Option.some.inj hk; exact Or.inr (Or.inr h5)
  have hcl : cs.length = xs.length * sz := hown.1
  rw [List.length_append] at hi
  by_cases hlt : i < xs.length
  · rw [part_left hcl hlt]
    have := step _ _ (he i hlt)
    rwa [List.getElem_append_left hlt]
  · rw [part_right hcl (by omega)]
    have := step _ _ (hes (i - xs.length) (by omega))
    rwa [List.getElem_append_right (by omega)]
/-- The address of an element. -/
theorem W.indexE {α : Type} {R : RdT α} {A : Nat → Prop} {t e sz bytes c j : Nat} {z : Value} {ao : Option Addr} {xs : List α} {k : IntKind} (hE : Elem P e sz bytes z) (hT : P.underlying t = some (.slice e)) (hx : ev l x = some (.slice ao xs.length c)) (hs : Els A w sz R ao c xs) (hi : ev l y = some (.int k (j : Int))) (hj : j < xs.length) (hN : Nat.blt d N = true)
    (next : ∀ ad cs, Cells w ad cs → R A w cs (xs[j]'hj) → cs.length = sz → W P N ops Q rest ((d, .pointer (some ad)) :: l) w) :
    W P N ops Q (⟨some d, .indexAddr t x y, ty, pos, aft, none⟩ :: rest) l w := by
  obtain ⟨es, hsl, hn, hes⟩ := hs
  refine W.indexS hE hT hx hsl hi (by omega) hN fun ad _ _ hc => next ad _ (hc.take sz) (hes j hj) ?_
  have h1 : (j + 1) * sz ≤ xs.length * sz := Nat.mul_le_mul_right _ hj
  rw [Nat.succ_mul] at h1
  rw [List.length_take, List.length_drop, hsl.len]
  simp only [Int.toNat_natCast]
  omega
/-- One cell at an address. -/
theorem W.loadC {t : TypeId} {ad : Addr} {v : Value} {dd : TypeDesc} {cs : List Value} {j : Nat} (hc : Cells w ad cs) (hv : cs[j]? = some v) (hx : ev l x = some (.pointer (some (ad.add j)))) (hT : P.underlying t = some dd) (ha : dd.isRow = false) (hN : Nat.blt d N = true)
    (next : W P N ops Q rest ((d, v) :: l) w) : W P N ops Q (⟨some d, .load t x, ty, pos, aft, none⟩ :: rest) l w :=
  W.load hx hT ha (hc j v hv) hN next
end
/-- How a type's cells are opened. -/
def Opens {H : Type} (enc : TypeId × Value → H) (P : Program) (t : TypeId) {α : Type} (R : RdT α) : Prop :=
  ∀ {w : World} {base : Nat} {spare : Nat → Bool} {held : Bool} {fuel : Nat} {cs : List Value} {x : DataW H × List MemPlace}, DataW.trod enc P w base spare held fuel t cs = some x → ∃ a, R (fun _ => False) w cs a
end Go.Proofs.Ythiijdbiikljpaa.KW
