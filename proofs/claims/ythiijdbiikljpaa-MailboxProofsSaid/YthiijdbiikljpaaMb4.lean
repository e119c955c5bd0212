/- Package mailbox: what is proved of a batch. -/
import Derived.Test.YthiijdbiikljpaaMb3
namespace Go.Proofs.Ythiijdbiikljpaa.Mbx
open Go Go.RowKit Go.Proofs.Ythiijdbiikljpaa.KW Go.Proofs.Ythiijdbiikljpaa.Words Go.Proofs.Ythiijdbiikljpaa.Sha Go.Proofs.Ythiijdbiikljpaa.RSha Go.Proofs.Ythiijdbiikljpaa.Grp Go.Proofs.Ythiijdbiikljpaa.Cod Go.Proofs.Ythiijdbiikljpaa.Disk
set_option linter.unusedVariables false
set_option linter.unusedSimpArgs false
set_option maxRecDepth 100000
/-- A public key's cells, of which the inner number alone is told. -/
def RPub : RdT Nat := fun _ _ cs n => cs.length = 10 ∧ (∀ u ∈ cs, u.oneCell' = true) ∧ cs[3]? = some (.int .u64 (n : Int)) ∧ n < M64
theorem rPub : RdOk RPub := ⟨fun h _ => h, fun h _ => h, fun h => h.2.1⟩
theorem EPub : Elem Try.prog 47 10 80 (.agg (List.replicate 10 (.int .u64 0)).toArray) := Elem.of (by kernel_rfl) rfl rfl
theorem proved1_ok (x n : Nat) (pc : List Value) (w : World) (hx : x < 18446744073709551616) (hp : RPub (fun _ => False) w pc n) :
    Ct Try.prog 47 #[.int .u64 (x : Int), .agg pc.toArray] w (fun v w' => v = .bool (decide (timesV 37 x = n)) ∧ Ext w w') := by
  refine Ct.enter [(0, .int .u64 (x : Int)), (1, .agg pc.toArray)] Try.func47 rfl rfl rfl rfl ?_
  refine C.seq ?_
  refine C.region ?_
  refine W.box pc rfl rfl rfl ?_
  intro g3 w3 hg3 hX3 hB3
  refine W.assign rfl rfl ?_
  refine W.nil ?_
  refine At.thenCode ?_
  refine C.seq ?_
  refine C.regionAny 6 ((fun v w => v = .int .u64 (x : Int)) :: (fun v w => v = .int .u64 ((timesV 37 x : Nat) : Int)) :: (fun v w => v = .pointer (some ⟨g3, 3, none⟩)) :: (fun v w => v = .int .u64 (n : Int)) :: (fun v w => v = .bool (decide (timesV 37 x = n))) :: (fun v w => v = .bool (decide (timesV 37 x = n))) :: []) [(0, .int .u64 (x : Int)), (3, .pointer (some ⟨g3, 0, none⟩))] [] (Sub.cons (rfl) (Sub.cons (rfl) (Sub.nil))) (Sub.nil) (Sub.cons (rfl) (Sub.cons (rfl) (Sub.nil))) (by kernel_rfl) rfl rfl rfl (And.intro (fun _ _ _ h _ => h) (And.intro (fun _ _ _ h _ => h) (And.intro (fun _ _ _ h _ => h) (And.intro (fun _ _ _ h _ => h) (And.intro (fun _ _ _ h _ => h) (And.intro (fun _ _ _ h _ => h) (trivial))))))) ?_ ?_
  · refine And.intro ?_ ?_
    · intro L_ wr hX_ hs_ hf_ hd_
      refine W.step [(0, _)] (Sub.cons (hs_ _ _ rfl) (Sub.refl _)) ?_
      refine W.move rfl rfl ?_
      refine W.nil ?_
      exact At.step (Ext.refl _) rfl
    refine And.intro ?_ ?_
    · intro L_ wr hX_ hs_ hf_ hd_
      obtain ⟨v0, e0, r0⟩ := hd_ 0 rfl
      obtain rfl : (.int .u64 (x : Int) : Value) = v0 := Eq.symm r0
      refine W.step [(5, _)] (Sub.cons (e0 _ rfl) (Sub.refl _)) ?_
      refine W.call Try.call48 rfl (Grp.Base_ok x hx _) rfl ?_
      rintro v6 w6 ⟨rfl, rfl⟩
      refine W.nil ?_
      exact At.step (Ext.refl _) rfl
    refine And.intro ?_ ?_
    · intro L_ wr hX_ hs_ hf_ hd_
      refine W.step [(3, _)] (Sub.cons (hs_ _ _ rfl) (Sub.refl _)) ?_
      refine W.fieldB (off := 3) (size := 1) (t := 41) (Fld.of (by kernel_rfl)) rfl rfl rfl ?_
      refine W.nil ?_
      exact At.step (Ext.refl _) rfl
    refine And.intro ?_ ?_
    · intro L_ wr hX_ hs_ hf_ hd_
      obtain ⟨v2, e2, r2⟩ := hd_ 2 rfl
      obtain rfl : (.pointer (some ⟨g3, 3, none⟩) : Value) = v2 := Eq.symm r2
      refine W.step [(7, _)] (Sub.cons (e2 _ rfl) (Sub.refl _)) ?_
      refine W.loadB (v := .int .u64 (n : Int)) rfl Try.underlying41 rfl (hB3.ext hX_) hp.2.2.1 rfl ?_
      refine W.nil ?_
      exact At.step (Ext.refl _) rfl
    refine And.intro ?_ ?_
    · intro L_ wr hX_ hs_ hf_ hd_
      obtain ⟨v1, e1, r1⟩ := hd_ 1 rfl
      obtain rfl : (.int .u64 ((timesV 37 x : Nat) : Int) : Value) = v1 := Eq.symm r1
      obtain ⟨v3, e3, r3⟩ := hd_ 3 rfl
      obtain rfl : (.int .u64 (n : Int) : Value) = v3 := Eq.symm r3
      refine W.step [(6, _), (8, _)] (Sub.cons (e1 _ rfl) (Sub.cons (e3 _ rfl) (Sub.refl _))) ?_
      refine W.eqlU rfl rfl rfl ?_
      refine W.nil ?_
      exact At.step (Ext.refl _) rfl
    refine And.intro ?_ ?_
    · intro L_ wr hX_ hs_ hf_ hd_
      obtain ⟨v4, e4, r4⟩ := hd_ 4 rfl
      obtain rfl : (.bool (decide (timesV 37 x = n)) : Value) = v4 := Eq.symm r4
      refine W.step [(9, _)] (Sub.cons (e4 _ rfl) (Sub.refl _)) ?_
      refine W.assign rfl rfl ?_
      refine W.nil ?_
      exact At.step (Ext.refl _) rfl
    exact trivial
  · intro L_ wr hX1 hs_ hv_
    obtain ⟨v5, e5, r5⟩ := hv_ 5 (by decide)
    obtain rfl : (.bool (decide (timesV 37 x = n)) : Value) = v5 := Eq.symm r5
    refine W.weaken (l' := [(4, _), (0, _), (3, _)]) (Sub.cons (e5 _ rfl) (Sub.cons (hs_ _ _ rfl) (Sub.cons (hs_ _ _ rfl) (Sub.nil)))) ?_
    refine W.nil ?_
    refine At.thenCode ?_
    refine C.ret ?_
    refine At.ret1 Try.results47 rfl ?_
    exact ⟨rfl, hX3.ext hX1⟩
theorem EqualFunc_ok (a : Option Addr) (c : Nat) (xs : List Nat) (a' : Option Addr) (c' : Nat) (ps : List Nat) (w : World) (hx : Us w a c xs) (hxb : ∀ x ∈ xs, x < 18446744073709551616) (hp : Els (fun _ => False) w 10 RPub a' c' ps) (hl : xs.length ≤ 9223372036854775807) (hl' : ps.length ≤ 9223372036854775807) :
    Ct Try.prog 46 #[.slice a xs.length c, .slice a' ps.length c', .func (.func 47) #[] #[]] w (fun v w' => v = .bool (provedB xs ps) ∧ Ext w w') := by
  refine Ct.enter [(0, .slice a xs.length c), (1, .slice a' ps.length c'), (2, .func (.func 47) #[] #[])] Try.func46 rfl rfl rfl rfl ?_
  refine C.seq ?_
  refine C.region ?_
  refine W.assign rfl rfl ?_
  refine W.nil ?_
  refine At.thenCode ?_
  refine C.seq ?_
  refine C.seq ?_
  refine C.region ?_
  refine W.move rfl rfl ?_
  refine W.lenS rfl Try.underlying30 rfl ?_
  refine W.move rfl rfl ?_
  refine W.lenS rfl Try.underlying42 rfl ?_
  refine W.neqI rfl rfl rfl ?_
  refine W.nil ?_
  refine At.thenCode ?_
  first | refine C.condD rfl (fun c14 => ?_) (fun c14 => ?_) | refine C.cond rfl (fun c14 => ?_) (fun c14 => ?_)
  · refine C.seq ?_
    refine C.region ?_
    refine W.assign rfl rfl ?_
    refine W.nil ?_
    refine At.thenCode ?_
    refine C.ret ?_
    refine At.thenRet ?_
    refine At.ret1 Try.results46 rfl ?_
    have : provedB xs ps = false := decide_eq_false fun h => c14 (by have := congrArg List.length h; simp at this; omega)
    rw [this]
    exact ⟨rfl, Ext.refl _⟩
  · have hlen : xs.length = ps.length := by omega
    refine C.skip ?_
    refine At.thenCode ?_
    refine C.seq ?_
    refine C.seq ?_
    refine C.region ?_
    refine W.move rfl rfl ?_
    refine W.lenS rfl Try.underlying30 rfl ?_
    refine W.move rfl rfl ?_
    refine W.nil ?_
    refine At.thenCode ?_
    refine C.block ?_
    refine C.loop (X := Nat) (fun x_ => [(1, .slice a' ps.length c'), (2, .func (.func 47) #[] #[]), (15, .slice a xs.length c), (16, .int .i64 (xs.length : Int)), (17, .int .i64 (x_ : Int))]) (fun x_ w1 => x_ ≤ xs.length ∧ Ext w w1 ∧ (xs.take x_).map (timesV 37) = ps.take x_) (fun x_ => xs.length - x_) (0) (Sub.cons (rfl) (Sub.cons (rfl) (Sub.cons (rfl) (Sub.cons (rfl) (Sub.cons (rfl) (Sub.nil)))))) ?start1 ?_
    case start1 =>
      show (0) ≤ xs.length ∧ Ext w _ ∧ (xs.take (0)).map (timesV 37) = ps.take (0)
      exact ⟨by omega, Ext.refl _, rfl⟩
    rintro i w1 hI_
    replace hI_ : i ≤ xs.length ∧ Ext w w1 ∧ (xs.take i).map (timesV 37) = ps.take i := hI_
    obtain ⟨hi, hX1, hE1⟩ := hI_
    refine C.weaken (l' := [(1, .slice a' ps.length c'), (2, .func (.func 47) #[] #[]), (15, .slice a xs.length c), (16, .int .i64 (xs.length : Int)), (17, .int .i64 (i : Int))]) (Sub.cons (rfl) (Sub.cons (rfl) (Sub.cons (rfl) (Sub.cons (rfl) (Sub.cons (rfl) (Sub.nil)))))) ?_
    refine C.seq ?_
    refine C.region ?_
    refine W.lssI rfl rfl rfl ?_
    refine W.nil ?_
    refine At.thenCode ?_
    refine C.seq ?_
    first | refine C.condD rfl (fun c18 => ?_) (fun c18 => ?_) | refine C.cond rfl (fun c18 => ?_) (fun c18 => ?_)
    · have hlt : i < xs.length := by omega
      have hlt' : i < ps.length := by omega
      refine C.skip ?_
      refine At.thenCode ?_
      refine C.seq ?_
      refine C.block ?_
      refine C.seq ?_
      refine C.region ?_
      refine W.move rfl rfl ?_
      refine W.indexS (i := (i : Int)) X64 Try.underlying30 rfl (hx.ext hX1) rfl ⟨by omega, by omega⟩ rfl ?_
      intro ad20 _ _ hc20
      refine W.load (v := .int .u64 ((xs[i]'hlt : Nat) : Int)) rfl Try.underlying41 rfl (by have h := hc20 0 (.int .u64 ((xs[i]'hlt : Nat) : Int)) (by rw [List.getElem?_drop, Nat.add_zero, Nat.mul_one, show ((i : Int).toNat) = i from rfl, get_u64 hlt]); rwa [add_zero'] at h) rfl ?_
      refine W.assign rfl rfl ?_
      refine W.assign rfl rfl ?_
      refine W.nil ?_
      refine At.thenCode ?_
      refine C.seq ?_
      refine C.region ?_
      refine W.move rfl rfl ?_
      refine W.move rfl rfl ?_
      refine W.indexE EPub Try.underlying42 rfl (hp.ext rPub hX1) rfl hlt' rfl ?_
      rintro ad24 pc24 hc24 hR24 hl24
      refine W.loadA rfl hc24 Try.underlying47 rfl (by rw [hl24]; kernel_rfl) rfl ?_
      refine W.alloc (z := .agg (List.replicate 10 (.int .u64 0)).toArray) (List.replicate 10 (.int .u64 0)) (by kernel_rfl) rfl rfl ?_
      intro g9 w9 hg9 hX9 hB9
      refine W.storeA pc24 rfl rfl hB9 (by rw [hl24]; rfl) (by rw [hl24]; kernel_rfl) hR24.2.1 ?_
      intro w10 hc10 hB10
      have hX10 : Ext w1 w10 := hX9.news hc10 fun k hk => Or.inr (by omega)
      refine W.nil ?_
      refine At.thenCode ?_
      refine C.seq ?_
      refine C.region ?_
      refine W.move rfl rfl ?_
      refine W.move rfl rfl ?_
      refine W.loadA rfl (hB10.cells (o := 0)) Try.underlying47 rfl (by rw [List.drop_zero, hl24]; kernel_rfl) rfl ?_
      rw [List.drop_zero]
      refine W.callV (caps := []) Try.call47 rfl rfl (Mbx.proved1_ok (xs[i]'hlt) (ps[i]'hlt') pc24 _ (hxb _ (List.getElem_mem hlt)) hR24) rfl ?_
      rintro v29 w29 ⟨rfl, hX29⟩
      first | refine W.notD rfl rfl ?_ | refine W.notB rfl rfl ?_
      refine W.nil ?_
      refine At.thenCode ?_
      first | refine C.condD rfl (fun c30 => ?_) (fun c30 => ?_) | refine C.cond rfl (fun c30 => ?_) (fun c30 => ?_)
      · refine C.seq ?_
        refine C.region ?_
        refine W.assign rfl rfl ?_
        refine W.nil ?_
        refine At.thenCode ?_
        refine C.ret ?_
        refine At.blockRet ?_
        refine At.thenRet ?_
        refine At.thenRet ?_
        refine At.blockRet ?_
        refine At.thenRet ?_
        refine At.ret1 Try.results46 rfl ?_
        have hq : ¬ timesV 37 (xs[i]'hlt) = ps[i]'hlt' := by simpa using c30
        have : provedB xs ps = false := decide_eq_false fun h => hq (by
          have h1 : (xs.map (timesV 37))[i]? = ps[i]? := by rw [h]
          rw [List.getElem?_map, List.getElem?_eq_getElem hlt, List.getElem?_eq_getElem hlt'] at h1
          simpa using h1)
        rw [this]
        exact ⟨rfl, (hX1.ext hX10).ext hX29⟩
      · refine C.skip ?_
        refine At.blockNormal ?_
        refine At.thenCode ?_
        refine C.region ?_
        first | refine W.addI rfl rfl (by omega) rfl ?_ | refine W.addW rfl rfl rfl ?_
        refine W.move rfl rfl ?_
        refine W.nil ?_
        have hq : timesV 37 (xs[i]'hlt) = ps[i]'hlt' := by simpa using c30
        refine At.thenRound (i + 1) (Sub.cons (rfl) (Sub.cons (rfl) (Sub.cons (rfl) (Sub.cons (rfl) (Sub.cons (look_eq rfl (iV (by omega))) (Sub.nil)))))) (show (i + 1) ≤ xs.length ∧ Ext w _ ∧ (xs.take (i + 1)).map (timesV 37) = ps.take (i + 1) from ?_) (show xs.length - (i + 1) < xs.length - i from ?_)
        · refine ⟨by omega, (hX1.ext hX10).ext hX29, ?_⟩
          rw [List.take_succ_eq_append_getElem hlt, List.take_succ_eq_append_getElem hlt', List.map_append, hE1, List.map_singleton, hq]
        · omega
    · have hi' : i = xs.length := by omega
      subst hi'
      refine C.exit ?_
      refine At.thenExit ?_
      refine At.thenExit ?_
      refine At.blockSelf ?_
      refine At.thenCode ?_
      refine C.seq ?_
      refine C.region ?_
      refine W.assign rfl rfl ?_
      refine W.nil ?_
      refine At.thenCode ?_
      refine C.ret ?_
      refine At.ret1 Try.results46 rfl ?_
      have : provedB xs ps = true := decide_eq_true (by rw [List.take_length] at hE1; rw [hE1, hlen, List.take_length])
      rw [this]
      exact ⟨rfl, hX1⟩
theorem proved_ok (a : Option Addr) (c : Nat) (xs : List Nat) (a' : Option Addr) (c' : Nat) (ps : List Nat) (w : World) (hx : Us w a c xs) (hxb : ∀ x ∈ xs, x < 18446744073709551616) (hp : Els (fun _ => False) w 10 RPub a' c' ps) (hl : xs.length ≤ 9223372036854775807) (hl' : ps.length ≤ 9223372036854775807) :
    Ct Try.prog 30 #[.slice a xs.length c, .slice a' ps.length c'] w (fun v w' => v = .bool (provedB xs ps) ∧ Ext w w') := by
  refine Ct.enter [(0, .slice a xs.length c), (1, .slice a' ps.length c')] Try.func30 rfl rfl rfl rfl ?_
  refine C.seq ?_
  refine C.region ?_
  refine W.assign rfl rfl ?_
  refine W.nil ?_
  refine At.thenCode ?_
  refine C.seq ?_
  refine C.region ?_
  refine W.move rfl rfl ?_
  refine W.move rfl rfl ?_
  refine W.call Try.call46 rfl (Mbx.EqualFunc_ok a c xs a' c' ps _ hx hxb hp hl hl') rfl ?_
  rintro v7 w7 ⟨rfl, hX7⟩
  refine W.assign rfl rfl ?_
  refine W.nil ?_
  refine At.thenCode ?_
  refine C.ret ?_
  refine At.ret1 Try.results30 rfl ?_
  exact ⟨rfl, hX7⟩
end Go.Proofs.Ythiijdbiikljpaa.Mbx
