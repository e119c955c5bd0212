/- Package slices' DeleteFunc over a store's rows. -/
import Derived.Test.YthiijdbiikljpaaMb7
namespace Go.Proofs.Ythiijdbiikljpaa.Mbx
open Go Go.RowKit Go.Proofs.Ythiijdbiikljpaa.KW Go.Proofs.Ythiijdbiikljpaa.Words Go.Proofs.Ythiijdbiikljpaa.Sha Go.Proofs.Ythiijdbiikljpaa.RSha Go.Proofs.Ythiijdbiikljpaa.Grp Go.Proofs.Ythiijdbiikljpaa.Cod Go.Proofs.Ythiijdbiikljpaa.Disk
set_option linter.unusedVariables false
set_option linter.unusedSimpArgs false
set_option maxRecDepth 100000
abbrev Hd := Int × List UInt8
theorem expire1_ok (A : Nat → Prop) (h : Hd) (hc : List Value) (gr : Nat) (r : Int) (w : World) (hh : RHeld A w hc h) (hr : Bk w gr [.int .i64 r]) :
    Ct Try.prog 60 #[.agg hc.toArray, .pointer (some ⟨gr, 0, none⟩)] w (fun v w' => v = .bool (decide (h.1 < r)) ∧ Ext w w') := by
  refine Ct.enter [(0, .agg hc.toArray), (1, .pointer (some ⟨gr, 0, none⟩))] Try.func60 rfl rfl rfl rfl ?_
  obtain ⟨vb, rfl, _, _⟩ := hh
  refine C.seq ?_
  refine C.region ?_
  refine W.box [.int .i64 h.1, vb] rfl rfl rfl ?_
  intro g2 w2 hg2 hX2 hB2
  have hr2 := hr.ext hX2
  refine W.assign rfl rfl ?_
  refine W.nil ?_
  refine At.thenCode ?_
  refine C.seq ?_
  refine C.region ?_
  refine W.fieldB (off := 0) (size := 1) (t := 3) (Fld.of (by kernel_rfl)) rfl rfl rfl ?_
  refine W.loadB (v := .int .i64 h.1) rfl Try.underlying3 rfl hB2 rfl rfl ?_
  refine W.loadB (v := .int .i64 r) rfl Try.underlying3 rfl hr2 rfl rfl ?_
  refine W.lssI rfl rfl rfl ?_
  refine W.assign rfl rfl ?_
  refine W.nil ?_
  refine At.thenCode ?_
  refine C.ret ?_
  refine At.ret1 Try.results60 rfl ?_
  exact ⟨rfl, hX2⟩
/-- The first of some that are of a round below r. -/
def FirstR (xs : List Hd) (r : Int) : Option Nat → Prop
  | none => ∀ h ∈ xs, r ≤ h.1
  | some i => ∃ hi : i < xs.length, (xs[i]'hi).1 < r ∧ ∀ h ∈ xs.take i, r ≤ h.1
def idxI : Option Nat → Int
  | none => -1
  | some i => (i : Int)
def expFn (gr : Nat) : Value := .func (.func 60) #[] #[.pointer (some ⟨gr, 0, none⟩)]
theorem IndexFunc_ok (a : Option Addr) (c : Nat) (xs : List Hd) (gr : Nat) (r : Int) (w : World) (hE : Els (fun _ => False) w 2 RHeld a c xs) (hr : Bk w gr [.int .i64 r]) (hl : xs.length ≤ 9223372036854775807) :
    Ct Try.prog 77 #[.slice a xs.length c, expFn gr] w (fun v w' => ∃ k, v = .int .i64 (idxI k) ∧ FirstR xs r k ∧ Ext w w') := by
  refine Ct.enter [(0, .slice a xs.length c), (1, expFn gr)] Try.func77 rfl rfl rfl rfl ?_
  refine C.seq ?_
  refine C.region ?_
  refine W.assign rfl rfl ?_
  refine W.nil ?_
  refine At.thenCode ?_
  refine C.seq ?_
  refine C.seq ?_
  refine C.region ?_
  refine W.move rfl rfl ?_
  refine W.lenS rfl Try.underlying85 rfl ?_
  refine W.move rfl rfl ?_
  refine W.nil ?_
  refine At.thenCode ?_
  refine C.block ?_
  refine C.loop (X := Nat) (fun x_ => [(0, .slice a xs.length c), (1, expFn gr), (7, .int .i64 (xs.length : Int)), (8, .int .i64 (x_ : Int))]) (fun x_ w1 => x_ ≤ xs.length ∧ Ext w w1 ∧ ∀ h ∈ xs.take x_, r ≤ h.1) (fun x_ => xs.length - x_) (0) (Sub.cons (rfl) (Sub.cons (rfl) (Sub.cons (rfl) (Sub.cons (rfl) (Sub.nil))))) ?start1 ?_
  case start1 =>
    show (0) ≤ xs.length ∧ Ext w _ ∧ ∀ h ∈ xs.take (0), r ≤ h.1
    exact ⟨by omega, Ext.refl _, fun h hh => by simp at hh⟩
  rintro i w1 hI_
  replace hI_ : i ≤ xs.length ∧ Ext w w1 ∧ ∀ h ∈ xs.take i, r ≤ h.1 := hI_
  obtain ⟨hi, hX1, hE1⟩ := hI_
  refine C.weaken (l' := [(0, .slice a xs.length c), (1, expFn gr), (7, .int .i64 (xs.length : Int)), (8, .int .i64 (i : Int))]) (Sub.cons (rfl) (Sub.cons (rfl) (Sub.cons (rfl) (Sub.cons (rfl) (Sub.nil))))) ?_
  refine C.seq ?_
  refine C.region ?_
  refine W.lssI rfl rfl rfl ?_
  refine W.nil ?_
  refine At.thenCode ?_
  refine C.seq ?_
  first | refine C.condD rfl (fun c9 => ?_) (fun c9 => ?_) | refine C.cond rfl (fun c9 => ?_) (fun c9 => ?_)
  · have hlt : i < xs.length := by omega
    refine C.skip ?_
    refine At.thenCode ?_
    refine C.seq ?_
    refine C.block ?_
    refine C.seq ?_
    refine C.region ?_
    refine W.move rfl rfl ?_
    refine W.assign rfl rfl ?_
    refine W.nil ?_
    refine At.thenCode ?_
    refine C.seq ?_
    refine C.region ?_
    refine W.move rfl rfl ?_
    refine W.move rfl rfl ?_
    refine W.move rfl rfl ?_
    refine W.indexE EHeld Try.underlying85 rfl (hE.ext rHeld hX1) rfl hlt rfl ?_
    rintro ad14 hc14 hcs14 hR14 hl14
    refine W.loadA rfl hcs14 Try.underlying87 rfl (by rw [hl14]; kernel_rfl) rfl ?_
    refine W.callV (caps := [.pointer (some ⟨gr, 0, none⟩)]) Try.call60 rfl rfl (Mbx.expire1_ok _ (xs[i]'hlt) hc14 gr r _ hR14 (hr.ext hX1)) rfl ?_
    rintro v16 w16 ⟨rfl, hX16⟩
    refine W.nil ?_
    refine At.thenCode ?_
    first | refine C.condD rfl (fun c16 => ?_) (fun c16 => ?_) | refine C.cond rfl (fun c16 => ?_) (fun c16 => ?_)
    · refine C.seq ?_
      refine C.region ?_
      refine W.move rfl rfl ?_
      refine W.assign rfl rfl ?_
      refine W.nil ?_
      refine At.thenCode ?_
      refine C.ret ?_
      refine At.blockRet ?_
      refine At.thenRet ?_
      refine At.thenRet ?_
      refine At.blockRet ?_
      refine At.thenRet ?_
      refine At.ret1 Try.results77 rfl ?_
      exact ⟨some i, rfl, ⟨hlt, c16, hE1⟩, hX1.ext hX16⟩
    · refine C.skip ?_
      refine At.blockNormal ?_
      refine At.thenCode ?_
      refine C.region ?_
      first | refine W.addI rfl rfl (by omega) rfl ?_ | refine W.addW rfl rfl rfl ?_
      refine W.move rfl rfl ?_
      refine W.nil ?_
      refine At.thenRound (i + 1) (Sub.cons (rfl) (Sub.cons (rfl) (Sub.cons (rfl) (Sub.cons (look_eq rfl (iV (by omega))) (Sub.nil))))) (show (i + 1) ≤ xs.length ∧ Ext w _ ∧ ∀ h ∈ xs.take (i + 1), r ≤ h.1 from ?_) (show xs.length - (i + 1) < xs.length - i from ?_)
      · refine ⟨by omega, hX1.ext hX16, fun h hh => ?_⟩
        rw [List.take_succ_eq_append_getElem hlt] at hh
        rcases List.mem_append.1 hh with hh | hh
        · exact hE1 h hh
        · obtain rfl := List.mem_singleton.1 hh
          omega
      · omega
  · obtain rfl : i = xs.length := by omega
    rw [List.take_length] at hE1
    refine C.exit ?_
    refine At.thenExit ?_
    refine At.thenExit ?_
    refine At.blockSelf ?_
    refine At.thenCode ?_
    refine C.seq ?_
    refine C.region ?_
    refine W.assign rfl rfl ?_
    refine W.nil ?_
    refine At.thenCode ?_
    refine C.ret ?_
    refine At.ret1 Try.results77 rfl ?_
    exact ⟨none, rfl, hE1, hX1⟩
def keepR (r : Int) (xs : List Hd) : List Hd := xs.filter fun h => decide (r ≤ h.1)
theorem keepR_all {r : Int} {xs : List Hd} (h : ∀ x ∈ xs, r ≤ x.1) : keepR r xs = xs := List.filter_eq_self.2 fun x hx => decide_eq_true (h x hx)
theorem keepR_step {r : Int} {xs : List Hd} {j : Nat} (hj : j < xs.length) : keepR r (xs.take (j + 1)) = keepR r (xs.take j) ++ if r ≤ (xs[j]'hj).1 then [xs[j]'hj] else [] := by
  unfold keepR
  rw [List.take_succ_eq_append_getElem hj, List.filter_append]
  congr 1
  by_cases h : r ≤ (xs[j]'hj).1
  · rw [if_pos h]; simp [h]
  · rw [if_neg h]; simp [h]
theorem keepR_len (r : Int) (xs : List Hd) : (keepR r xs).length ≤ xs.length := List.length_filter_le _ _
theorem DeleteFunc_ok (A : Nat → Prop) (v : Value) (xs : List Hd) (gr : Nat) (r : Int) (w : World) (ho : OwE A w 0 87 2 RHeld v xs) (hr : Bk w gr [.int .i64 r]) (hgr : v.ownBlock ≠ some gr) (hl : xs.length ≤ 9223372036854775807) :
    Ct Try.prog 59 #[v, expFn gr] w (fun v' w' => OwE A w' 0 87 2 RHeld v' (keepR r xs) ∧ v'.ownBlock = v.ownBlock ∧ Chg (fun k => v.ownBlock = some k) w w') := by
  obtain ⟨ao, c, rfl, hEl, _⟩ := OwE.form rHeld (OwE.new rHeld ho (B := fun _ => False) (fun _ h => h.elim)) (fun _ _ h => h)
  refine Ct.enter [(0, .slice ao xs.length c), (1, expFn gr)] Try.func59 rfl rfl rfl rfl ?_
  have hown0 := ho
  refine C.seq ?_
  refine C.region ?_
  refine W.assign rfl rfl ?_
  refine W.nil ?_
  refine At.thenCode ?_
  refine C.seq ?_
  refine C.region ?_
  refine W.move rfl rfl ?_
  refine W.move rfl rfl ?_
  refine W.call Try.call77 rfl (Mbx.IndexFunc_ok ao c xs gr r _ hEl hr hl) rfl ?_
  rintro v10 w10 ⟨k, rfl, hk, hX10⟩
  refine W.assign rfl rfl ?_
  refine W.nil ?_
  refine At.thenCode ?_
  refine C.seq ?_
  refine C.seq ?_
  refine C.region ?_
  refine W.move rfl rfl ?_
  refine W.eqlI rfl rfl rfl ?_
  refine W.nil ?_
  refine At.thenCode ?_
  first | refine C.condD rfl (fun c12 => ?_) (fun c12 => ?_) | refine C.cond rfl (fun c12 => ?_) (fun c12 => ?_)
  · have hall : ∀ h ∈ xs, r ≤ h.1 := by
      cases k with
      | none => exact hk
      | some i => exact absurd (show (i : Int) = -1 from c12) (by omega)
    refine C.seq ?_
    refine C.region ?_
    refine W.move rfl rfl ?_
    refine W.assign rfl rfl ?_
    refine W.nil ?_
    refine At.thenCode ?_
    refine C.ret ?_
    refine At.thenRet ?_
    refine At.ret1 Try.results59 rfl ?_
    have hkr : keepR r xs = xs := keepR_all hall
    rw [hkr]
    exact ⟨OwE.ext rHeld hown0 hX10, rfl, hX10.mono fun _ c => c.elim⟩
  · obtain ⟨i0, rfl⟩ : ∃ i, k = some i := by
      cases k with
      | none => exact absurd rfl c12
      | some i => exact ⟨i, rfl⟩
    obtain ⟨hi0, hdel, hbef⟩ := hk
    obtain ⟨cs0, hcs0, hel0⟩ := ho
    obtain ⟨gb, rfl⟩ : ∃ gb, ao = some ⟨gb, 0, none⟩ := by
      rcases hcs0.2 with ⟨h1, _⟩ | ⟨g, cap, cur, hv, _⟩
      · injection h1 with h1 h2; omega
      · injection hv with h1; exact ⟨g, h1⟩
    have hX10c : Chg (fun k => k = gb) w w10 := hX10.mono fun _ c => c.elim
    have hcs10 := ownsRow_ext hcs0 hX10
    have hgr' : gr ≠ gb := fun e => hgr (by rw [e]; rfl)
    have hidx : idxI (some i0) = (i0 : Int) := rfl
    have hnc : xs.length ≤ c := hEl.le
    refine C.skip ?_
    refine At.thenCode ?_
    refine C.seq ?_
    refine C.seq ?_
    refine C.region ?_
    refine W.move rfl rfl ?_
    first | refine W.addI rfl rfl (by omega) rfl ?_ | refine W.addW rfl rfl rfl ?_
    refine W.assign rfl rfl ?_
    refine W.nil ?_
    refine At.thenCode ?_
    refine C.block ?_
    refine C.loop (X := Nat × Nat) (fun x_ => [(0, .slice (some ⟨gb, 0, none⟩) xs.length c), (1, expFn gr), (5, .int .i64 (x_.1 : Int)), (6, .int .i64 (x_.2 : Int))]) (fun x_ w1 => x_.1 < x_.2 ∧ x_.2 ≤ xs.length ∧ Chg (fun k => k = gb) w w1 ∧ (keepR r (xs.take x_.2)).length = x_.1 ∧ ∃ cs : List Value, World.ownsRow w1 0 87 2 (.slice (some ⟨gb, 0, none⟩) xs.length c) xs.length cs ∧ (∀ k h, (keepR r (xs.take x_.2))[k]? = some h → RHeld (fun q => A q ∨ (Value.slice (some ⟨gb, 0, none⟩) xs.length c).ownBlock = some q) w1 ((cs.drop (k * 2)).take 2) h) ∧ (∀ k h, x_.2 ≤ k → xs[k]? = some h → RHeld (fun q => A q ∨ (Value.slice (some ⟨gb, 0, none⟩) xs.length c).ownBlock = some q) w1 ((cs.drop (k * 2)).take 2) h)) (fun x_ => xs.length - x_.2) (i0, i0 + 1) (Sub.cons (rfl) (Sub.cons (rfl) (Sub.cons (rfl) (Sub.cons (look_eq rfl (iV (by rw [hidx]; omega))) (Sub.nil))))) ?start1 ?_
    case start1 =>
      show (i0) < (i0 + 1) ∧ (i0 + 1) ≤ xs.length ∧ Chg (fun k => k = gb) w _ ∧ (keepR r (xs.take (i0 + 1))).length = (i0) ∧ ∃ cs : List Value, World.ownsRow _ 0 87 2 (.slice (some ⟨gb, 0, none⟩) xs.length c) xs.length cs ∧ (∀ k h, (keepR r (xs.take (i0 + 1)))[k]? = some h → RHeld (fun q => A q ∨ (Value.slice (some ⟨gb, 0, none⟩) xs.length c).ownBlock = some q) _ ((cs.drop (k * 2)).take 2) h) ∧ (∀ k h, (i0 + 1) ≤ k → xs[k]? = some h → RHeld (fun q => A q ∨ (Value.slice (some ⟨gb, 0, none⟩) xs.length c).ownBlock = some q) _ ((cs.drop (k * 2)).take 2) h)

      have hk0 : keepR r (xs.take (i0 + 1)) = xs.take i0 := by
        rw [keepR_step hi0, keepR_all hbef, if_neg (by omega), List.append_nil]
      refine ⟨by omega, by omega, hX10c, by rw [hk0, List.length_take]; omega, cs0, hcs10, fun k h hh => ?_, fun k h hle hh => ?_⟩
      · rw [hk0] at hh
        have hlt : k < xs.length := by have := (List.getElem?_eq_some_iff.1 hh).1; rw [List.length_take] at this; omega
        have h1 : xs[k]'hlt = h := by
          rw [List.getElem?_take] at hh
          split at hh
          · rw [List.getElem?_eq_getElem hlt] at hh; exact Option.some.inj hh
          · cases hh
        rw [← h1]; exact rHeld.ext (hel0 k hlt) hX10
      · obtain ⟨hlt, h1⟩ := List.getElem?_eq_some_iff.1 hh
        rw [← h1]; exact rHeld.ext (hel0 k hlt) hX10
    rintro ⟨i, j⟩ w1 hI_
    replace hI_ : i < j ∧ j ≤ xs.length ∧ Chg (fun k => k = gb) w w1 ∧ (keepR r (xs.take j)).length = i ∧ ∃ cs : List Value, World.ownsRow w1 0 87 2 (.slice (some ⟨gb, 0, none⟩) xs.length c) xs.length cs ∧ (∀ k h, (keepR r (xs.take j))[k]? = some h → RHeld (fun q => A q ∨ (Value.slice (some ⟨gb, 0, none⟩) xs.length c).ownBlock = some q) w1 ((cs.drop (k * 2)).take 2) h) ∧ (∀ k h, j ≤ k → xs[k]? = some h → RHeld (fun q => A q ∨ (Value.slice (some ⟨gb, 0, none⟩) xs.length c).ownBlock = some q) w1 ((cs.drop (k * 2)).take 2) h) := hI_
    obtain ⟨hij, hjn, hC1, hlen1, cs, hcs, hlo, hhi⟩ := hI_
    refine C.weaken (l' := [(0, .slice (some ⟨gb, 0, none⟩) xs.length c), (1, expFn gr), (5, .int .i64 (i : Int)), (6, .int .i64 (j : Int))]) (Sub.cons (rfl) (Sub.cons (rfl) (Sub.cons (rfl) (Sub.cons (rfl) (Sub.nil))))) ?_
    refine C.seq ?_
    refine C.seq ?_
    refine C.region ?_
    refine W.move rfl rfl ?_
    refine W.move rfl rfl ?_
    refine W.lenS rfl Try.underlying85 rfl ?_
    refine W.lssI rfl rfl rfl ?_
    refine W.nil ?_
    refine At.thenCode ?_
    first | refine C.condD rfl (fun c19 => ?_) (fun c19 => ?_) | refine C.cond rfl (fun c19 => ?_) (fun c19 => ?_)
    · have hjlt : j < xs.length := by omega
      have hcl : cs.length = xs.length * 2 := hcs.1
      obtain ⟨ao_, c_, he_, hSl, _⟩ := ownsRow_form hcs
      injection he_ with e1_ e2_ e3_
      subst e1_; subst e3_
      refine C.skip ?_
      refine At.thenCode ?_
      refine C.seq ?_
      refine C.block ?_
      refine C.seq ?_
      refine C.region ?_
      refine W.move rfl rfl ?_
      refine W.move rfl rfl ?_
      refine W.indexS (i := (j : Int)) EHeld Try.underlying85 rfl hSl rfl ⟨by omega, by omega⟩ rfl ?_
      intro ad24 _ _ hc24
      have hRj := hhi j (xs[j]'hjlt) (Nat.le_refl _) (List.getElem?_eq_getElem hjlt)
      obtain ⟨hcj, hcjE⟩ : ∃ hcj, hcj = (cs.drop (j * 2)).take 2 := ⟨_, rfl⟩
      rw [← hcjE] at hRj
      have hcjl : hcj.length = 2 := by rw [hcjE, List.length_take, List.length_drop, hcl]; omega
      have hc24' : Cells w1 ad24 hcj := by rw [hcjE]; exact hc24.take 2
      refine W.loadA rfl hc24' Try.underlying87 rfl (by rw [hcjl]; kernel_rfl) rfl ?_
      refine W.alloc (z := .agg #[.int .i64 0, .slice none 0 0]) [.int .i64 0, .slice none 0 0] (by kernel_rfl) rfl rfl ?_
      intro g7 w7 hg7 hX7 hB7
      refine W.storeA hcj rfl rfl hB7 (by rw [hcjl]; rfl) (by rw [hcjl]; kernel_rfl) (rHeld.one hRj) ?_
      intro w8 hC8 hB8
      have hX8 : Ext w1 w8 := hX7.news hC8 fun k hk => Or.inr (by omega)
      refine W.nil ?_
      refine At.thenCode ?_
      refine C.seq ?_
      refine C.region ?_
      refine W.move rfl rfl ?_
      refine W.loadA rfl (hB8.cells (o := 0)) Try.underlying87 rfl (by rw [List.drop_zero, hcjl]; kernel_rfl) rfl ?_
      rw [List.drop_zero]
      have hr8 : Bk w8 gr [.int .i64 r] := (hr.chg hC1 hgr').ext hX8
      refine W.callV (caps := [.pointer (some ⟨gr, 0, none⟩)]) Try.call60 rfl rfl (Mbx.expire1_ok _ (xs[j]'hjlt) hcj gr r _ (rHeld.ext hRj hX8) hr8) rfl ?_
      rintro v28 w28 ⟨rfl, hX28⟩
      have hX28' : Ext w1 w28 := hX8.ext hX28
      have hcs28 := ownsRow_ext hcs hX28'
      have hC28 : Chg (fun k => k = gb) w w28 := hC1.ext hX28'
      first | refine W.notD rfl rfl ?_ | refine W.notB rfl rfl ?_
      refine W.nil ?_
      refine At.thenCode ?_
      first | refine C.condD rfl (fun c29 => ?_) (fun c29 => ?_) | refine C.cond rfl (fun c29 => ?_) (fun c29 => ?_)
      · have hkeep : r ≤ (xs[j]'hjlt).1 := by have := c29; simp at this; omega
        refine C.seq ?_
        refine C.region ?_
        refine W.move rfl rfl ?_
        refine W.move rfl rfl ?_
        refine W.loadA rfl ((hB8.ext hX28).cells (o := 0)) Try.underlying87 rfl (by rw [List.drop_zero, hcjl]; kernel_rfl) rfl ?_
        rw [List.drop_zero]
        have hilt : i < xs.length := by omega
        refine W.indexS (i := (i : Int)) EHeld Try.underlying85 rfl (hSl.ext hX28') rfl ⟨by omega, by omega⟩ rfl ?_
        intro ad33 _ had33 _
        obtain rfl : ad33 = ⟨gb, i * 2, none⟩ := by rw [had33 _ rfl, add_mk, Nat.zero_add]; rfl
        refine W.storeOs rfl rfl (rHeld.one hRj) hcs28 (by rw [hcjl]; omega) (by rw [hcjl]; kernel_rfl) ?_
        intro w9 hC9 hcs9
        have hpt : ∀ k, k < xs.length → ((KW.splice cs (i * 2) hcj).drop (k * 2)).take 2 = if k = i then hcj else (cs.drop (k * 2)).take 2 := fun k hk => splice_part hcl hcjl hilt hk
        have hmv : ∀ {cs0 : List Value} {h : Hd}, RHeld (fun q => A q ∨ (Value.slice (some ⟨gb, 0, none⟩) xs.length c).ownBlock = some q) w1 cs0 h → RHeld (fun q => A q ∨ (Value.slice (some ⟨gb, 0, none⟩) xs.length c).ownBlock = some q) w9 cs0 h := fun h0 => rHeld.chg (rHeld.ext h0 hX28') (hC9.mono fun k hk => Or.inr (by subst hk; rfl))
        have hkl := keepR_len r (xs.take j)
        refine W.nil ?_
        refine At.thenCode ?_
        refine C.region ?_
        refine W.move rfl rfl ?_
        first | refine W.addI rfl rfl (by omega) rfl ?_ | refine W.addW rfl rfl rfl ?_
        refine W.assign rfl rfl ?_
        refine W.nil ?_
        refine At.blockNormal ?_
        refine At.thenCode ?_
        refine C.region ?_
        refine W.move rfl rfl ?_
        first | refine W.addI rfl rfl (by omega) rfl ?_ | refine W.addW rfl rfl rfl ?_
        refine W.assign rfl rfl ?_
        refine W.nil ?_
        have hst : keepR r (xs.take (j + 1)) = keepR r (xs.take j) ++ [xs[j]'hjlt] := by rw [keepR_step hjlt, if_pos hkeep]
        refine At.thenRound (i + 1, j + 1) (Sub.cons (rfl) (Sub.cons (rfl) (Sub.cons (look_eq rfl (iV (by omega))) (Sub.cons (look_eq rfl (iV (by omega))) (Sub.nil))))) (show (i + 1) < (j + 1) ∧ (j + 1) ≤ xs.length ∧ Chg (fun k => k = gb) w _ ∧ (keepR r (xs.take (j + 1))).length = (i + 1) ∧ ∃ cs : List Value, World.ownsRow _ 0 87 2 (.slice (some ⟨gb, 0, none⟩) xs.length c) xs.length cs ∧ (∀ k h, (keepR r (xs.take (j + 1)))[k]? = some h → RHeld (fun q => A q ∨ (Value.slice (some ⟨gb, 0, none⟩) xs.length c).ownBlock = some q) _ ((cs.drop (k * 2)).take 2) h) ∧ (∀ k h, (j + 1) ≤ k → xs[k]? = some h → RHeld (fun q => A q ∨ (Value.slice (some ⟨gb, 0, none⟩) xs.length c).ownBlock = some q) _ ((cs.drop (k * 2)).take 2) h) from ?_) (show xs.length - (j + 1) < xs.length - j from ?_)
        · refine ⟨by omega, by omega, hC28.trans hC9, by rw [hst, List.length_append, hlen1]; rfl, _, hcs9, fun k h hh => ?_, fun k h hle hh => ?_⟩
          · rw [hst] at hh
            rcases Nat.lt_or_ge k i with hki | hki
            · rw [List.getElem?_append_left (by omega)] at hh
              rw [hpt k (by omega), if_neg (by omega)]
              exact hmv (hlo k h hh)
            · rw [List.getElem?_append_right (by omega)] at hh
              have hk0 : k - (keepR r (xs.take j)).length = 0 := by
                rcases Nat.eq_zero_or_pos (k - (keepR r (xs.take j)).length) with h0 | h0
                · exact h0
                · rw [List.getElem?_eq_none (by simp; omega)] at hh; cases hh
              rw [hk0] at hh
              obtain rfl := Option.some.inj hh
              obtain rfl : k = i := by omega
              rw [hpt k (by omega), if_pos rfl]
              exact hmv hRj
          · have hk := (List.getElem?_eq_some_iff.1 hh).1
            rw [hpt k hk, if_neg (by omega)]
            exact hmv (hhi k h (by omega) hh)
        · omega
      · have hdrop : ¬ r ≤ (xs[j]'hjlt).1 := by have := c29; simp at this; omega
        refine C.skip ?_
        refine At.blockNormal ?_
        refine At.thenCode ?_
        refine C.region ?_
        refine W.move rfl rfl ?_
        first | refine W.addI rfl rfl (by omega) rfl ?_ | refine W.addW rfl rfl rfl ?_
        refine W.assign rfl rfl ?_
        refine W.nil ?_
        have hst : keepR r (xs.take (j + 1)) = keepR r (xs.take j) := by rw [keepR_step hjlt, if_neg hdrop, List.append_nil]
        refine At.thenRound (i, j + 1) (Sub.cons (rfl) (Sub.cons (rfl) (Sub.cons (rfl) (Sub.cons (look_eq rfl (iV (by omega))) (Sub.nil))))) (show (i) < (j + 1) ∧ (j + 1) ≤ xs.length ∧ Chg (fun k => k = gb) w _ ∧ (keepR r (xs.take (j + 1))).length = (i) ∧ ∃ cs : List Value, World.ownsRow _ 0 87 2 (.slice (some ⟨gb, 0, none⟩) xs.length c) xs.length cs ∧ (∀ k h, (keepR r (xs.take (j + 1)))[k]? = some h → RHeld (fun q => A q ∨ (Value.slice (some ⟨gb, 0, none⟩) xs.length c).ownBlock = some q) _ ((cs.drop (k * 2)).take 2) h) ∧ (∀ k h, (j + 1) ≤ k → xs[k]? = some h → RHeld (fun q => A q ∨ (Value.slice (some ⟨gb, 0, none⟩) xs.length c).ownBlock = some q) _ ((cs.drop (k * 2)).take 2) h) from ?_) (show xs.length - (j + 1) < xs.length - j from ?_)
        · refine ⟨by omega, by omega, hC28, by rw [hst]; exact hlen1, _, hcs28, fun k h hh => ?_, fun k h hle hh => rHeld.ext (hhi k h (by omega) hh) hX28'⟩
          rw [hst] at hh
          exact rHeld.ext (hlo k h hh) hX28'
        · omega
    · obtain rfl : j = xs.length := by omega
      rw [List.take_length] at hlen1 hlo
      have hin : i < xs.length := hij
      refine C.exit ?_
      refine At.thenExit ?_
      refine At.thenExit ?_
      refine At.blockSelf ?_
      refine At.thenCode ?_
      refine C.seq ?_
      refine C.region ?_
      refine W.move rfl rfl ?_
      refine W.move rfl rfl ?_
      refine W.sliceX (lo := i) (hi := xs.length) EHeld Try.underlying85 rfl hnc (.inr ⟨_, .i64, rfl, rfl⟩) (.inl ⟨rfl, rfl⟩) (by omega) (Nat.le_refl _) rfl ?_
      rw [if_neg (by omega), Option.map_some, add_mk, Nat.zero_add]
      refine W.clearO (lo := i) EHeld Try.underlying85 (zs := [.int .i64 0, .slice none 0 0]) rfl (by
        intro u hu
        simp only [List.mem_cons, List.not_mem_nil, or_false] at hu
        rcases hu with rfl | rfl <;> rfl) rfl rfl hin hcs ?_
      intro w9 cs9 hC9 hcs9 hsame
      refine W.nil ?_
      refine At.thenCode ?_
      refine C.seq ?_
      refine C.region ?_
      refine W.move rfl rfl ?_
      refine W.move rfl rfl ?_
      refine W.sliceX (lo := 0) (hi := i) EHeld Try.underlying85 rfl hnc (.inl ⟨rfl, rfl⟩) (.inr ⟨_, .i64, rfl, rfl⟩) (by omega) (by omega) rfl ?_
      rw [if_neg (by omega), Option.map_some, add_mk, Nat.zero_mul, Nat.add_zero, Nat.sub_zero, Nat.sub_zero]
      refine W.assign rfl rfl ?_
      refine W.nil ?_
      refine At.thenCode ?_
      refine C.ret ?_
      refine At.ret1 Try.results59 rfl ?_
      refine ⟨⟨cs9.take (i * 2), by rw [hlen1]; exact own_prefix hcs9 (by omega), fun k hk => ?_⟩, rfl, (hC1.trans hC9).mono fun k hk => by subst hk; rfl⟩
      have hki : k < i := by omega
      have hp : ((cs9.take (i * 2)).drop (k * 2)).take 2 = (cs.drop (k * 2)).take 2 := by
        apply List.ext_getElem?
        intro m
        rw [List.getElem?_take, List.getElem?_take]
        split
        · rename_i hm
          rw [List.getElem?_drop, List.getElem?_drop, List.getElem?_take, if_pos (by omega), hsame _ (by omega)]
        · rfl
      rw [hp]
      exact rHeld.chg (hlo k _ (List.getElem?_eq_getElem hk)) (hC9.mono fun k hk => Or.inr (by subst hk; rfl))
end Go.Proofs.Ythiijdbiikljpaa.Mbx
