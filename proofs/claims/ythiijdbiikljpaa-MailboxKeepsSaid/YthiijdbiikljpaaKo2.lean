/- How arguments that are structs, and slices of such, are told to the walks. -/
import Derived.Test.YthiijdbiikljpaaKp
import Derived.Test.YthiijdbiikljpaaKl
namespace Go.Proofs.Ythiijdbiikljpaa.KW
open Go Go.RowKit Go.ChangeShapes Go.WideShapes
set_option linter.unusedVariables false
section
variable {H : Type} {enc : TypeId × Value → H} {P : Program} {w : World} {base : Nat} {spare : Nat → Bool} {held : Bool}
theorem cells_num {t M : Nat} {k : IntKind} {fuel : Nat} {cs : List Value} {x : DataW H × List MemPlace} (hk : modOf k = M) (hM : Nat.blt 0 M = true) (ht : P.underlying t = some (.int k)) (h : DataW.trod enc P w base spare held fuel t cs = some x) : ∃ n : Nat, cs = [.int k (n : Int)] ∧ n < M := by
  obtain ⟨a, rfl, _, hw⟩ := DataW.trod_int ht h
  obtain ⟨h1, h2⟩ := pow_bits hk hM
  have h3 : ((2 : Int) ^ k.bits) = (M : Int) := by rw [← h1]; simp
  simp only [Lit.wf, IntKind.min, IntKind.max, h2, Bool.false_eq_true, if_false, h3, Bool.and_eq_true, decide_eq_true_eq] at hw
  exact ⟨a.toNat, by rw [Int.toNat_of_nonneg hw.1], by omega⟩
theorem cells_int {t : Nat} {fuel : Nat} {cs : List Value} {x : DataW H × List MemPlace} (ht : P.underlying t = some (.int .i64)) (h : DataW.trod enc P w base spare held fuel t cs = some x) : ∃ a : Int, cs = [.int .i64 a] ∧ -9223372036854775808 ≤ a ∧ a ≤ 9223372036854775807 := by
  obtain ⟨a, rfl, _, hw⟩ := DataW.trod_int ht h
  have h1 : IntKind.i64.min = -9223372036854775808 := by decide
  have h2 : IntKind.i64.max = 9223372036854775807 := by decide
  simp only [Lit.wf, h1, h2, Bool.and_eq_true, decide_eq_true_eq] at hw
  exact ⟨a, rfl, hw.1, hw.2⟩
theorem cells_key {n t e fuel : Nat} {cs : List Value} {x : DataW H × List MemPlace} (ht : P.underlying t = some (.array n e)) (he : P.underlying e = some (.int .u8)) (hc : P.cellsOf e = 1) (hct : P.cellsOf t = n) (h : DataW.trod enc P w base spare held fuel t cs = some x) :
    ∃ key : List UInt8, cs = key.map byteV ∧ key.length = n := by
  obtain ⟨xs, m, _, _, hlen, hxl, hel⟩ := DataW.trod_array ht h
  have hcl : cs.length = n := by rw [hlen, hct]
  have each : ∀ i, i < n → ∃ b : UInt8, cs[i]? = some (byteV b) := by
    intro i hi
    have h1 := hel i hi
    rw [hc, Nat.mul_one, List.getElem?_eq_getElem (by omega)] at h1
    obtain ⟨z, hz, _, hw⟩ := DataW.trod_int he h1
    have hb : 0 ≤ z ∧ z ≤ 255 := by
      simp [Lit.wf, IntKind.min, IntKind.max, IntKind.signed, IntKind.bits] at hw
      exact hw
    have h2 : cs[i]? = some (.int .u8 z) := by
      have h3 : ((cs.drop i).take 1)[0]? = some (.int .u8 z) := by rw [hz]; rfl
      rw [List.getElem?_take, if_pos (by decide), List.getElem?_drop, Nat.add_zero] at h3
      exact h3
    refine ⟨UInt8.ofNat z.toNat, ?_⟩
    rw [h2, byteV, UInt8.toNat_ofNat', Nat.mod_eq_of_lt (by omega), Int.toNat_of_nonneg hb.1]
  obtain ⟨f, hf'⟩ := Go.Deep.choose_lt each
  refine ⟨(List.range n).map f, ?_, by simp⟩
  apply List.ext_getElem?
  intro i
  by_cases hi : i < n
  · rw [hf' i hi]; simp [hi]
  · rw [List.getElem?_eq_none (by omega), List.getElem?_eq_none (by simp; omega)]
/-- A slice whose elements read so. -/
theorem cells_els {α : Type} {R : RdT α} {t e sz fuel : Nat} {cs : List Value} {x : DataW H × List MemPlace} (ht : P.underlying t = some (.slice e)) (hc : P.cellsOf e = sz)
    (hO : ∀ {fuel : Nat} {cs : List Value} {x : DataW H × List MemPlace}, DataW.trod enc P w base spare held fuel e cs = some x → ∃ a, R (fun _ => False) w cs a)
    (h : DataW.trod enc P w base spare held fuel t cs = some x) : ∃ ao c, ∃ xs : List α, cs = [.slice ao xs.length c] ∧ Els (fun _ => False) w sz R ao c xs ∧ c ≤ 9223372036854775807 := by
  rcases DataW.trod_slice ht h with ⟨rfl, _⟩ | ⟨a, len, cap, elems, rest, n, _, rfl, _, hb, hl, hm, hlen, hel, _, _⟩
  · exact ⟨none, 0, [], rfl, Els.nil _ _ _ _, by decide⟩
  · have each : ∀ i, i < len → ∃ p : α × List Value, p.2.length = sz ∧ R (fun _ => False) w p.2 p.1 ∧ ∀ j, j < sz → w.cell? (a.add (i * sz + j)) = p.2[j]? := by
      intro i hi
      have h1 := hel i hi
      rw [List.getElem?_eq_getElem (by omega), hc, Option.bind_eq_some_iff] at h1
      obtain ⟨cs', h2, h3⟩ := h1
      obtain ⟨y, hy⟩ := hO h3
      obtain ⟨g1, g2, g3⟩ := World.cells?_some h2
      refine ⟨(y, cs'), g2, hy, fun j hj => ?_⟩
      have := g3 j hj
      rw [← add_add]
      exact this
    have hmx : maxLen ≤ 9223372036854775807 := by decide
    by_cases h0 : len = 0
    · subst h0
      exact ⟨some a, cap, [], rfl, Els.empty _ _ _ _ _ _ (fun e => by cases e), by omega⟩
    obtain ⟨p0, _⟩ := each 0 (by omega)
    haveI : Inhabited (α × List Value) := ⟨p0⟩
    obtain ⟨f, hf⟩ := Go.Deep.choose_lt each
    obtain ⟨es, hes⟩ : ∃ es : List Value, es = (List.range len).flatMap fun i => (f i).2 := ⟨_, rfl⟩
    have hfl : ∀ m, m ≤ len → ((List.range m).flatMap fun i => (f i).2).length = m * sz := by
      intro m
      induction m with
      | zero => intro _; simp
      | succ m ih =>
        intro hm'
        rw [List.range_succ, List.flatMap_append, List.length_append, ih (by omega)]
        simp only [List.flatMap_cons, List.flatMap_nil, List.append_nil]
        rw [(hf m (by omega)).1, Nat.succ_mul]
    have hpart : ∀ m, m ≤ len → ∀ i, i < m → (((List.range m).flatMap fun i => (f i).2).drop (i * sz)).take sz = (f i).2 := by
      intro m
      induction m with
      | zero => intro _ i hi; omega
      | succ m ih =>
        intro hm' i hi
        rw [List.range_succ, List.flatMap_append]
        have hlm := hfl m (by omega)
        by_cases him : i < m
        · rw [part_left hlm him]; exact ih (by omega) i him
        · obtain rfl : i = m := by omega
          rw [part_right hlm (Nat.le_refl _), Nat.sub_self, Nat.zero_mul, List.drop_zero]
          simp only [List.flatMap_cons, List.flatMap_nil, List.append_nil]
          exact List.take_of_length_le (by rw [(hf i (by omega)).1]; exact Nat.le_refl _)
    have hesl : es.length = len * sz := by rw [hes]; exact hfl len (Nat.le_refl _)
    refine ⟨some a, cap, (List.range len).map fun i => (f i).1, by simp, ⟨es, ⟨by simpa using hl, by simpa using hesl, (fun e => by cases e), ?_⟩, fun _ _ _ h => h, ?_⟩, by omega⟩
    · intro ad ead j u hu
      obtain rfl := Option.some.inj ead
      have hj : j < len * sz := by
        have := (List.getElem?_eq_some_iff.1 hu).1
        omega
      have hsz : 0 < sz := by
        rcases Nat.eq_zero_or_pos sz with h0 | h0
        · rw [h0] at hj; simp at hj
        · exact h0
      have hi : j / sz < len := Nat.div_lt_of_lt_mul (by rw [Nat.mul_comm]; exact hj)
      have hr : j % sz < sz := Nat.mod_lt _ hsz
      have hdj : j / sz * sz + j % sz = j := by rw [Nat.mul_comm]; exact Nat.div_add_mod j sz
      have h1 := (hf (j / sz) hi).2.2 (j % sz) hr
      rw [hdj] at h1
      rw [h1]
      have h2 := hpart len (Nat.le_refl _) (j / sz) hi
      rw [← hes] at h2
      rw [← h2, List.getElem?_take, if_pos hr, List.getElem?_drop, hdj]
      exact hu
    · intro i hi
      simp at hi
      have h2 := hpart len (Nat.le_refl _) i hi
      rw [← hes] at h2
      rw [h2]
      simpa using (hf i hi).2.1
theorem Els.mono {α : Type} {R R' : RdT α} {A : Nat → Prop} {sz c : Nat} {a : Option Addr} {xs : List α} (h : Els A w sz R a c xs) (hr : ∀ cs x, R A w cs x → R' A w cs x) : Els A w sz R' a c xs := by
  obtain ⟨es, h1, h2, h3⟩ := h
  exact ⟨es, h1, h2, fun i hi => hr _ _ (h3 i hi)⟩
theorem Els.all {α : Type} {R : RdT α} {A : Nat → Prop} {sz c : Nat} {a : Option Addr} {xs : List α} (h : Els A w sz R a c xs) {Q : α → Prop} (hr : ∀ cs x, R A w cs x → Q x) : ∀ x ∈ xs, Q x := by
  obtain ⟨es, h1, h2, h3⟩ := h
  intro x hx
  obtain ⟨i, hi, rfl⟩ := List.getElem_of_mem hx
  exact hr _ _ (h3 i hi)
/-- A value that is a struct or an array. -/
theorem agg_of {r : Reach} {b0 : Nat} {t : TypeId} {v : Value} {dd : TypeDesc} (ht : P.underlying t = some dd) (hd : dd.isRow = true) (hval : Value.okWide P w r b0 t v) : ∃ cs : List Value, v = .agg cs.toArray := by
  unfold Value.okWide at hval
  rw [ht] at hval
  cases dd <;> first | (cases hd; done) | (cases v <;> simp_all <;> exact ⟨_, Array.toArray_toList.symm⟩)
end
end Go.Proofs.Ythiijdbiikljpaa.KW
