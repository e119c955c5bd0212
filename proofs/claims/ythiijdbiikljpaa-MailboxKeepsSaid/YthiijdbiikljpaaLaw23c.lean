/- Chapter 23: what its laws on letters and rounds need beside: parts of rows, keys that are compared, a store beside a growing row; what is fetched. -/
import Derived.Test.YthiijdbiikljpaaLaw23
namespace Go.Proofs.Ythiijdbiikljpaa.Law23
open Go Go.RowKit Go.Proofs.Ythiijdbiikljpaa.KW Go.Proofs.Ythiijdbiikljpaa.Words Go.Proofs.Ythiijdbiikljpaa.Sha Go.Proofs.Ythiijdbiikljpaa.RSha Go.Proofs.Ythiijdbiikljpaa.Grp Go.Proofs.Ythiijdbiikljpaa.Cod Go.Proofs.Ythiijdbiikljpaa.Disk Go.Proofs.Ythiijdbiikljpaa.Mbx
set_option linter.unusedVariables false
set_option linter.unusedSimpArgs false
set_option maxRecDepth 100000
section
open Go.Proofs.Ythiijdbiikljpaa.KW
variable {P : Program} {N : Nat} {Q : Exit → Act → World → Prop} {l : Env} {w : World} {ops : Array Oper} {rest : List Oper} {d : Tmp} {ty : TypeId} {pos : String} {aft : Array Edge} {x y : Operand} {T T' : TypeId}
/-- Are two arrays of bytes equal? -/
theorem W.eqlKey {e n : Nat} {a b : List UInt8} (hT : P.underlying T = some (.array n e)) (he : P.underlying e = some (.int .u8)) (hi : (P.info? e).map (·.size) = some 1) (hx : ev l x = some (.agg (a.map byteV).toArray)) (hy : ev l y = some (.agg (b.map byteV).toArray)) (ha : a.length = n) (hb : b.length = n) (hg : P.eqGuardType P.depth T = false) (hN : Nat.blt d N = true)
    (next : W P N ops Q rest ((d, .bool (decide (a = b))) :: l) w) : W P N ops Q (⟨some d, .binOp .eql T x y T', ty, pos, aft, none⟩ :: rest) l w :=
  W.op rfl rfl hN (fun f hf => by
    have hsz : ∀ w, (sizeOf e).run P w = .ok 1 w := by
      intro w
      cases hq : P.info? e with
      | none => simp [hq] at hi
      | some i =>
        have hs : i.size = 1 := by simpa [hq] using hi
        simp [sizeOf, typeInfo, hq, hs]
    have he' : (eqGuard .eql T x y (.agg (a.map byteV).toArray) (.agg (b.map byteV).toArray)).run P w = .ok () w := by simp [eqGuard, hg]
    have ec : Extern.Stop.cell = byteV := rfl
    have hr : (binOp .eql T (.agg (a.map byteV).toArray) (.agg (b.map byteV).toArray)).run P w = .ok (.bool (decide (a = b))) w := by
      rw [← ec, run_eql_struct, run_equalIn_bytes w 9998 T e n hT he hsz a b ha hb]
      have eb : (a == b) = decide (a = b) := by rw [Bool.eq_iff_iff]; simp
      simp only [Result.andThen_ok, eb]
    simp only [execOp, hf.ev hx, hf.ev hy, he', Sem.run_bind, Sem.run_pure, Result.andThen_ok, hr]) next
/-- a[lo:hi] of a row of such elements. -/
theorem W.sliceE {α : Type} {R : RdT α} {A : Nat → Prop} {t e c sz lo hi : Nat} {z : Value} {bytes : Nat} {ao : Option Addr} {xs : List α} {ol oh : Option Operand} (hE : Elem P e sz bytes z) (hT : P.underlying t = some (.slice e)) (hx : ev l x = some (.slice ao xs.length c)) (hs : Els A w sz R ao c xs)
    (hlo : (ol = none ∧ lo = 0) ∨ ∃ o k, ol = some o ∧ ev l o = some (.int k (lo : Int))) (hhi : (oh = none ∧ hi = xs.length) ∨ ∃ o k, oh = some o ∧ ev l o = some (.int k (hi : Int))) (h1 : lo ≤ hi) (h2 : hi ≤ xs.length) (hN : Nat.blt d N = true)
    (next : ∀ ao' c', Els A w sz R ao' c' ((xs.drop lo).take (hi - lo)) → W P N ops Q rest ((d, .slice ao' ((xs.drop lo).take (hi - lo)).length c') :: l) w) :
    W P N ops Q (⟨some d, .slice t x ol oh none, ty, pos, aft, none⟩ :: rest) l w := by
  obtain ⟨es, hsl, hn, hes⟩ := hs
  have hlen : ((xs.drop lo).take (hi - lo)).length = hi - lo := by rw [List.length_take, List.length_drop]; omega
  refine W.slice hE hT hx hsl hlo hhi h1 h2 hN fun ao' c' hs' hb' => ?_
  have hpos := hE.pos
  have hel := hsl.len
  have := next ao' c' ⟨_, by rw [hlen]; exact hs', fun ad e hne hA => ?_, fun i hi' => ?_⟩
  · rwa [hlen] at this
  · obtain ⟨a, e1, e2⟩ := hb' ad e
    refine hn a e1 ?_ (e2 ▸ hA)
    rintro rfl
    exact hne (by simp)
  · rw [hlen] at hi'
    have hi2 : lo + i < xs.length := by omega
    have e1 : ((((es.drop (lo * sz)).take ((hi - lo) * sz)).drop (i * sz)).take sz) = (es.drop ((lo + i) * sz)).take sz := by
      have h3 : (i + 1) * sz ≤ (hi - lo) * sz := Nat.mul_le_mul_right _ (by omega)
      rw [Nat.succ_mul] at h3
      rw [List.drop_take, List.take_take, List.drop_drop, Nat.add_mul, Nat.min_eq_left (by omega)]
    have e2 : ((xs.drop lo).take (hi - lo))[i]'(by rw [hlen]; exact hi') = xs[lo + i]'hi2 := by rw [List.getElem_take, List.getElem_drop]
    rw [e1, e2]
    exact hes (lo + i) hi2
/-- append of one element. -/
theorem W.appendE1 {α : Type} {R : RdT α} {A : Nat → Prop} {e sz bytes base c : Nat} {z v : Value} {ao : Option Addr} {xs : List α} {y0 : α} {es : List Value} (hR : RdOk R) (hE : Elem P e sz bytes z) (hT : P.underlying T = some (.slice e))
    (hx : ev l x = some v) (hy : ev l y = some (.slice ao 1 c)) (ho : OwE A w base e sz R v xs) (hsl : Sl w ao 1 c sz es) (hes : R (fun k => A k ∨ v.ownBlock = some k) w es y0) (hlen : (xs.length + 1) * bytes ≤ 140737488355328) (hlen2 : xs.length + 1 ≤ 140737488355328) (hbase : base ≤ w.heap.size) (hN : Nat.blt d N = true)
    (next : ∀ v' w', OwE A w' base e sz R v' (xs ++ [y0]) → w.grownBy w' v.ownBlock → (v'.ownBlock = v.ownBlock ∨ ∃ k, v'.ownBlock = some k ∧ w.heap.size ≤ k) → W P N ops Q rest ((d, v') :: l) w') :
    W P N ops Q (⟨some d, .call ⟨.builtin .append, #[x, y], #[T, T]⟩, ty, pos, aft, none⟩ :: rest) l w := by
  obtain ⟨cs, hown, he⟩ := ho
  have h1 : ∀ u ∈ es, u.oneCell' = true := fun u hu => hR.one hes u hu
  refine W.append hE hT hx hy hown hsl h1 hlen hlen2 hbase hN fun v' w' h2 h3 h4 => next v' w' ⟨cs ++ es, by rw [List.length_append]; exact h2, fun i hi => ?_⟩ h3 h4
  have hC : Chg (fun k => v.ownBlock = some k) w w' := (Chg.of_grown h3).mono fun k hk => hk.symm
  have step : ∀ (c0 : List Value) (a : α), R (fun k => A k ∨ v.ownBlock = some k) w c0 a → R (fun k => A k ∨ v'.ownBlock = some k) w' c0 a := by
    intro c0 a ha
    have hb : R (fun k => A k ∨ v.ownBlock = some k ∨ w.heap.size ≤ k) w c0 a := hR.new ha fun k hk hlt => by
      rcases hk with hk | hk | hk
      · exact Or.inl hk
      · exact Or.inr hk
      · omega
    have hc : R (fun k => A k ∨ v.ownBlock = some k ∨ w.heap.size ≤ k) w' c0 a := hR.chg hb (hC.mono fun k hk => Or.inr (Or.inl hk))
    refine hR.new hc fun k hk _ => ?_
    rcases hk with hk | hk
    · exact Or.inl hk
    rcases h4 with h4 | ⟨k', h4, h5⟩
    · exact Or.inr (Or.inl (by rw [← h4]; exact hk))
    · rw [h4] at hk; obtain rfl := Option.some.inj hk; exact Or.inr (Or.inr h5)
  have hcl : cs.length = xs.length * sz := hown.1
  rw [List.length_append] at hi
  by_cases hlt : i < xs.length
  · rw [part_left hcl hlt]
    have := step _ _ (he i hlt)
    rwa [List.getElem_append_left hlt]
  · have hi1 : i = xs.length := by simp at hi; omega
    subst hi1
    rw [part_right hcl (Nat.le_refl _), Nat.sub_self, Nat.zero_mul, List.drop_zero, List.take_of_length_le (by have := hsl.len; omega)]
    have := step _ _ hes
    rwa [List.getElem_append_right (Nat.le_refl _), show ([y0] : List α)[xs.length - xs.length]'(by simp) = y0 by simp]
end
/-- Changes that are among those which the elements stand, and that do not reach the row. -/
theorem OwE.chgS {α : Type} {R : RdT α} (hR : RdOk R) {A S : Nat → Prop} {w w' : World} {base e sz : Nat} {v : Value} {xs : List α} (h : OwE A w base e sz R v xs) (g : Chg S w w') (hS : ∀ k, S k → A k) (hn : ∀ k, v.ownBlock = some k → ¬ S k) : OwE A w' base e sz R v xs := by
  obtain ⟨cs, ho, he⟩ := h
  exact ⟨cs, ownsRow_chg ho g hn, fun i hi => hR.chg (he i hi) (g.mono fun k hk => Or.inl (hS k hk))⟩
/-- What is the law's own changes and grows. -/
theorem Live.grow {w0 w w' : World} {Y S : Nat → Prop} {g dg : Nat} {rv : Int} {B : Box} (h : Live w0 w Y g dg rv B) (c : Chg S w w') (hS : ∀ k, S k → Y k ∧ w0.heap.size ≤ k) : Live w0 w' (More Y w w') g dg rv B := by
  obtain ⟨F, Fd, h1, h2, h3, h4, h5⟩ := h.out
  have hs := c.size
  refine ⟨⟨F, Fd, h1.chg c (fun k hk hs => (h4 k hk).1 (hS k hs).1), h2.chg c (fun k hk hs => (h5 k hk).1 (hS k hs).1), h3, fun k hk => ⟨fun hy => ?_, (h4 k hk).2⟩, fun k hk => ⟨fun hy => ?_, (h5 k hk).2⟩⟩, h.ext.news c fun k hk => .inr (hS k hk).2, fun k hk => ?_⟩
  · rcases hy with hy | hy
    · exact (h4 k hk).1 hy
    · have := h1.lt k hk; omega
  · rcases hy with hy | hy
    · exact (h5 k hk).1 hy
    · have := h2.lt k hk; omega
  · rcases hk with hk | hk
    · have := h.y k hk; omega
    · exact hk.2

/-! ### what is fetched -/
def wantL (k : List UInt8) (l : List Let) : List Let := l.filter fun p => decide (p.1 = k)
theorem wantL_append (k : List UInt8) (a b : List Let) : wantL k (a ++ b) = wantL k a ++ wantL k b := List.filter_append _ _
theorem heldX_want (x : BatD) (k : List UInt8) : (heldX x x.lets.length k).map (fun h => (k, h.2)) = wantL k x.lets := by
  unfold heldX wantL
  rw [List.take_length, List.map_map]
  have : ∀ l : List Let, (∀ p ∈ l, p.1 = k) → l.map ((fun h : Int × List UInt8 => (k, h.2)) ∘ fun p => (x.round, p.2)) = l := by
    intro l
    induction l with
    | nil => intro _; rfl
    | cons p t ih =>
      intro h
      rw [List.map_cons, ih fun q hq => h q (by simp [hq])]
      have : p.1 = k := h p (by simp)
      congr 1
      show (k, p.2) = p
      rw [← this]
  exact this _ fun p hp => by simpa using (List.mem_filter.1 hp).2
theorem held_mem {l : List BatD} {k : List UInt8} : ∀ h ∈ heldL l k, ∃ x ∈ l, h.1 = x.round := by
  intro h hh
  unfold heldL at hh
  obtain ⟨x, hx, h2⟩ := List.mem_flatMap.1 hh
  exact ⟨x, hx, heldX_round h h2⟩
theorem fetch_all {l : List BatD} {k : List UInt8} {a c : Int} (h : ∀ x ∈ l, a ≤ x.round ∧ x.round ≤ c) : fetchL l k a c = (heldL l k).map fun h => (k, h.2) := by
  unfold fetchL
  rw [List.filter_eq_self.2 fun q hq => by
    obtain ⟨x, hx, e⟩ := held_mem q hq
    have := h x hx
    rw [e]; simp [this.1, this.2]]
theorem fetch_none {l : List BatD} {k : List UInt8} {a c : Int} (h : ∀ x ∈ l, x.round < a ∨ c < x.round) : fetchL l k a c = [] := by
  unfold fetchL
  rw [List.filter_eq_nil_iff.2 fun q hq => by
    obtain ⟨x, hx, e⟩ := held_mem q hq
    have := h x hx
    rw [e]
    simp only [Bool.and_eq_true, decide_eq_true_eq]
    omega]
  rfl
/-- Rounds from none on, a batch each: what the store holds then. -/
structure FetP (k : List UInt8) (r : Nat) (want : List Let) (B : Box) (ps : List (List UInt8)) : Prop where
  good : Mbx.Good B ps
  room : B.D.room = 100000
  len : B.D.bs.length ≤ r * 3000
  past : B.s.past = 0
  rounds : ∀ x ∈ B.s.l, 0 ≤ x.round ∧ x.round < (r : Int)
  cnt : B.s.l.length ≤ r
  held : (heldL B.s.l k).map (fun h => (k, h.2)) = want
def rB (r : Nat) (part : List Let) : BatD := ⟨(r : Int), 0, [], part⟩
theorem rB_ok {r : Nat} {part : List Let} (hr : r ≤ 1000) (hp : ∀ p ∈ part, p.1.length = 32) : BatOk (rB r part) := ⟨show InI (r : Int) by constructor <;> omega, show InI 0 by constructor <;> decide, fun y hy => by simp [rB] at hy, hp⟩
theorem rB_e {r : Nat} {part : List Let} (hl : part.length ≤ 1000) (hs : ∀ p ∈ part, p.2.length ≤ 100 ∧ p.2.length = sizeL part) : batE (rB r part) = 0 := by
  have h1 : ¬ longL part := by rintro ⟨p, hp, h⟩; have := (hs p hp).1; omega
  have h2 : ¬ wrongL part := by rintro ⟨p, hp, h⟩; exact h (hs p hp).2
  have h3 : ¬ 1000 < part.length := by omega
  have h4 : ¬ (r : Int) < 0 := by omega
  simp [batE, rB, h1, h2, h3, h4]
theorem rB_len {r : Nat} {part : List Let} (hr : r ≤ 1000) (hp : ∀ p ∈ part, p.1.length = 32) (hl : part.length ≤ 20) (hs : ∀ p ∈ part, p.2.length ≤ 100) : (batB (rB r part)).length ≤ 2700 := by
  have := batB_len (rB_ok hr hp) (m := 100) hs
  have h1 : (rB r part).inner.length = 0 := rfl
  have h2 : (rB r part).lets.length = part.length := rfl
  omega
theorem hasL_not {l : List BatD} {r c : Int} (h : ∀ x ∈ l, x.round ≠ r) : hasL l r c = false := by
  unfold hasL
  rw [List.any_eq_false]
  intro x hx
  simp [h x hx]
theorem FetP.step {k : List UInt8} {r : Nat} {want part : List Let} {B : Box} {ps : List (List UInt8)} (h : FetP k r want B ps) (hr : r ≤ 10) (hp : ∀ p ∈ part, p.1.length = 32) (hl : part.length ≤ 20) (hs : ∀ p ∈ part, p.2.length ≤ 100 ∧ p.2.length = sizeL part) :
    acceptE B (rB r part) [] = 0 ∧ FetP k (r + 1) (want ++ wantL k part) (acceptB B (rB r part) []) (ps ++ [1 :: batB (rB r part)]) := by
  have hbl := rB_len (r := r) (by omega) hp hl fun p hp => (hs p hp).1
  have hm : mayE B.s (rB r part) = 0 := by
    have h1 := rB_e (r := r) (by omega) hs
    have h2 : hasL B.s.l (rB r part).round (rB r part).chain = false := hasL_not fun x hx => by have := (h.rounds x hx).2; show x.round ≠ (r : Int); omega
    have h3 : ¬ 1099511627776 < (rB r part).round := by show ¬ 1099511627776 < (r : Int); omega
    have h4 : ¬ (rB r part).round < ((0 : Nat) : Int) := by show ¬ (r : Int) < 0; omega
    unfold mayE
    rw [h1, h2, h.past, if_neg (by rintro (c | c); exact h3 c; cases c), if_neg (by decide), if_neg h4, if_neg (by decide)]
  have hlen := h.len
  obtain ⟨h1, h2, h3, h4, h5⟩ := h.good.accept (x := rB r part) (pubs := []) hm (rB_ok (by omega) hp) rfl (by omega) (by have h6 := h.room; have : r * 3000 ≤ 10 * 3000 := Nat.mul_le_mul_right _ hr; omega)
  refine ⟨h1, h2, h4.trans h.room, by have : (r + 1) * 3000 = r * 3000 + 3000 := by omega
                                      omega, by rw [h3]; exact h.past, ?_, by rw [h3]; have := h.cnt; show (B.s.l ++ [_]).length ≤ _; simp; omega, ?_⟩
  · rw [h3]
    intro x hx
    rcases List.mem_append.1 (show x ∈ B.s.l ++ [rB r part] from hx) with hx | hx
    · have := h.rounds x hx; omega
    · obtain rfl := List.mem_singleton.1 hx
      show 0 ≤ (r : Int) ∧ (r : Int) < _
      omega
  · rw [h3]
    show (heldL (B.s.l ++ [rB r part]) k).map _ = _
    rw [heldL_take, List.map_append, h.held, heldX_want]
    rfl
theorem cut_take {ls : List Let} {n m : Nat} (h : n ≤ m) : ls.take m = ls.take n ++ (ls.drop n).take (m - n) := by
  have : m = n + (m - n) := by omega
  rw [this, List.take_add, Nat.add_sub_cancel_left]
end Go.Proofs.Ythiijdbiikljpaa.Law23
