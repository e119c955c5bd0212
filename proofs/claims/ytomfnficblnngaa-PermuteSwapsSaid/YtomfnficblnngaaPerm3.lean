/- Package permute and the reference's orders: what is back, what is right. -/
import Derived.Test.YtomfnficblnngaaPerm2
namespace Go.Proofs.Ytomfnficblnngaa.Perm
open Go Go.RowKit Go.Proofs.Ytomfnficblnngaa.KW Go.Proofs.Ytomfnficblnngaa.Words Go.Proofs.Ytomfnficblnngaa.Beacon Go.Proofs.Ytomfnficblnngaa.Ints
set_option linter.unusedVariables false
set_option linter.unusedSimpArgs false
set_option maxRecDepth 100000

def InvR (L : List Int) (base : Nat) (v : Value) (w : World) : Prop := ∃ ao c, v = .tuple #[.slice ao (invR L).length c, .bool (decide (Rt L))] ∧ Zs w ao c (invR L) ∧ ∀ ad, ao = some ad → base ≤ ad.block
theorem InvR.bad {L : List Int} {base : Nat} {w : World} (h : ¬ Rt L) : InvR L base (.tuple #[.slice none 0 0, .bool false]) w := by
  have e : invR L = [] := by unfold invR; rw [if_neg h]
  exact ⟨none, 0, by rw [e, decide_eq_false h]; rfl, by rw [e]; exact Sl.none _ 1, fun ad h => by cases h⟩
theorem InvR.good {L : List Int} {base n c : Nat} {ao : Option Addr} {w : World} (h : Rt L) (hn : n = L.length) (ho : w.ownsRow base 3 1 (.slice ao n c) n ((invP L L.length).map (.int .i64))) : InvR L base (.tuple #[.slice ao n c, .bool true]) w := by
  subst hn
  have e : invR L = invL L := by unfold invR; rw [if_pos h]
  refine ⟨ao, c, by rw [e, decide_eq_true h, invL_length], ?_, fun ad ea => ?_⟩
  · rw [e]; show Sl _ _ _ _ _ _; rw [invL_length]; exact own_slz ho
  · obtain ⟨_, _, he, _, hb⟩ := ownsRow_form ho
    injection he with h1 _ _
    exact hb ad (by rw [← h1]; exact ea)
theorem b_set (M : List Bool) (i : Nat) : (M.map .bool : List Value).set i (.bool true) = (M.set i true).map .bool := List.map_set.symm
theorem get_b {M : List Bool} {i : Nat} (h : i < M.length) : (M.map .bool : List Value)[i]? = some (.bool (M.getD i false)) := by
  rw [List.getElem?_map, List.getElem?_eq_getElem h]; simp [List.getD, h]
theorem XB : Elem Try.prog 4 1 1 (.bool false) := Elem.of (by kernel_rfl) rfl rfl
theorem Inverse_ok (ao : Option Addr) (c : Nat) (L : List Int) (w : World) (hS : Zs w ao c L) (hl : L.length ≤ 100000) :
    Ct Try.prog 30 #[.slice ao L.length c] w (fun v w' => InvR L w.heap.size v w' ∧ Ext w w') := by
  refine Ct.enter [(0, .slice ao L.length c)] Try.func30 rfl rfl rfl rfl ?_
  obtain ⟨n, hn⟩ : ∃ n, n = L.length := ⟨_, rfl⟩
  have hS : Sl w ao n c 1 (L.map (.int .i64)) := by rw [hn]; exact hS
  rw [← hn]
  refine C.seq ?_
  refine C.region ?_
  refine W.assign rfl rfl ?_
  refine W.assign rfl rfl ?_
  refine W.nil ?_
  refine At.thenCode ?_
  refine C.seq ?_
  refine C.region ?_
  refine W.move rfl rfl ?_
  refine W.lenS rfl Try.underlying48 rfl ?_
  refine W.make1 (k := n) XI rfl Try.underlying48 rfl rfl rfl rfl (by omega) (by omega) rfl ?_
  intro g10 w10 hg10 hX10 ho10
  refine W.assign rfl rfl ?_
  refine W.nil ?_
  refine At.thenCode ?_
  refine C.seq ?_
  refine C.region ?_
  refine W.move rfl rfl ?_
  refine W.lenS rfl Try.underlying48 rfl ?_
  refine W.make1 (k := n) XB rfl Try.underlying79 rfl rfl rfl rfl (by omega) (by omega) rfl ?_
  intro g13 w13 hg13 hX13 ho13
  have hs10 := hX10.size
  have hs13 := hX13.size
  have hl10 := World.ownsRow.lt ho10 g10 rfl
  refine W.assign rfl rfl ?_
  refine W.nil ?_
  refine At.thenCode ?_
  refine C.seq ?_
  refine C.seq ?_
  refine C.region ?_
  refine W.move rfl rfl ?_
  refine W.lenS rfl Try.underlying48 rfl ?_
  refine W.move rfl rfl ?_
  refine W.nil ?_
  refine At.thenCode ?_
  refine C.block ?_
  refine C.loop (X := Nat) (fun x_ => [(0, .slice ao n c), (4, .slice (some ⟨g10, 0, none⟩) n n), (5, .slice (some ⟨g13, 0, none⟩) n n), (14, .slice ao n c), (15, .int .i64 (n : Int)), (16, .int .i64 (x_ : Int))]) (fun x_ w1 => Ext w w1 ∧ x_ ≤ n ∧ RtP L x_ ∧ World.ownsRow w1 w.heap.size 3 1 (.slice (some ⟨g10, 0, none⟩) n n) n ((invP L x_).map (.int .i64)) ∧ World.ownsRow w1 w10.heap.size 4 1 (.slice (some ⟨g13, 0, none⟩) n n) n ((metP L x_).map .bool)) (fun x_ => n - x_) (0) (Sub.cons (rfl) (Sub.cons (rfl) (Sub.cons (rfl) (Sub.cons (rfl) (Sub.cons (rfl) (Sub.cons (rfl) (Sub.nil))))))) ?start1 ?_
  case start1 =>
    show Ext w _ ∧ (0) ≤ n ∧ RtP L (0) ∧ World.ownsRow _ w.heap.size 3 1 (.slice (some ⟨g10, 0, none⟩) n n) n ((invP L (0)).map (.int .i64)) ∧ World.ownsRow _ w10.heap.size 4 1 (.slice (some ⟨g13, 0, none⟩) n n) n ((metP L (0)).map .bool)
    exact ⟨hX10.ext hX13, by omega, RtP_zero L, by rw [invP, List.map_replicate, ← hn]; exact ownsRow_ext ho10 hX13, by rw [metP, List.map_replicate, ← hn]; exact ho13⟩
  rintro i w1 hI_
  replace hI_ : Ext w w1 ∧ i ≤ n ∧ RtP L i ∧ World.ownsRow w1 w.heap.size 3 1 (.slice (some ⟨g10, 0, none⟩) n n) n ((invP L i).map (.int .i64)) ∧ World.ownsRow w1 w10.heap.size 4 1 (.slice (some ⟨g13, 0, none⟩) n n) n ((metP L i).map .bool) := hI_
  obtain ⟨hX1, hi, hR, hO1, hM1⟩ := hI_
  refine C.weaken (l' := [(0, .slice ao n c), (4, .slice (some ⟨g10, 0, none⟩) n n), (5, .slice (some ⟨g13, 0, none⟩) n n), (14, .slice ao n c), (15, .int .i64 (n : Int)), (16, .int .i64 (i : Int))]) (Sub.cons (rfl) (Sub.cons (rfl) (Sub.cons (rfl) (Sub.cons (rfl) (Sub.cons (rfl) (Sub.cons (rfl) (Sub.nil))))))) ?_
  refine C.seq ?_
  refine C.region ?_
  refine W.lssI rfl rfl rfl ?_
  refine W.nil ?_
  refine At.thenCode ?_
  refine C.seq ?_
  first | refine C.condD rfl (fun c17 => ?_) (fun c17 => ?_) | refine C.cond rfl (fun c17 => ?_) (fun c17 => ?_)
  · have hlt : i < L.length := by omega
    obtain ⟨x, hx⟩ : ∃ x, x = L.getD i 0 := ⟨_, rfl⟩
    have hgx : (L.map (.int .i64) : List Value)[i]? = some (.int .i64 x) := by rw [hx]; exact get_z hlt
    refine C.skip ?_
    refine At.thenCode ?_
    refine C.seq ?_
    refine C.block ?_
    refine C.seq ?_
    refine C.region ?_
    refine W.move rfl rfl ?_
    refine W.idx (v := .int .i64 x) XI Try.underlying48 Try.underlying3 rfl rfl (hS.ext hX1) rfl (by omega) ?_ rfl rfl ?_
    · rw [Int.toNat_natCast]
      exact hgx
    intro p19
    -- read with the address
    refine W.assign rfl rfl ?_
    refine W.assign rfl rfl ?_
    refine W.nil ?_
    refine At.thenCode ?_
    refine C.seq ?_
    refine C.seq ?_
    refine C.region ?_
    refine W.move rfl rfl ?_
    refine W.lssI rfl rfl rfl ?_
    refine W.move rfl rfl ?_
    first | refine W.splitD (fun g23 => ?_) (fun g23 => ?_) | refine W.splitB (fun g23 => ?_) (fun g23 => ?_)
    · refine W.skips rfl rfl rfl rfl rfl rfl ?_
      refine W.skips rfl rfl rfl rfl rfl rfl ?_
      refine W.skips rfl rfl rfl rfl rfl rfl ?_
      refine W.skips rfl rfl rfl rfl rfl rfl ?_
      refine W.pickT rfl rfl rfl ?_
      refine W.move rfl rfl ?_
      refine W.skips rfl rfl rfl rfl rfl rfl ?_
      refine W.skips rfl rfl rfl rfl rfl rfl ?_
      refine W.skips rfl rfl rfl rfl rfl rfl ?_
      refine W.skips rfl rfl rfl rfl rfl rfl ?_
      refine W.pickT rfl rfl rfl ?_
      refine W.nil ?_
      refine At.thenCode ?_
      refine C.condT rfl ?_
      refine C.seq ?_
      refine C.region ?_
      refine W.assign rfl rfl ?_
      refine W.assign rfl rfl ?_
      refine W.nil ?_
      refine At.thenCode ?_
      refine C.ret ?_
      refine At.thenRet ?_
      refine At.blockRet ?_
      refine At.thenRet ?_
      refine At.thenRet ?_
      refine At.blockRet ?_
      refine At.thenRet ?_
      refine At.ret2 Try.results30 rfl rfl ?_
      first
      | (have hno : ¬ Rt L := by
           refine not_Rt hlt (fun hc => ?_)
           rw [← hx] at hc
           first
             | (have := hc.1; omega)
             | (obtain ⟨j, h1, h2⟩ := (metP_get (L := L) x.toNat i hR (by omega)).1 (by simp_all)
                exact hc.2 j h1 (by rw [h2]; omega))
         exact ⟨InvR.bad hno, hX1⟩)
      | (obtain rfl : i = n := by omega
         rw [hn] at hR hO1
         exact ⟨InvR.good hR hn (by rw [hn]; exact hO1), hX1⟩)
    · refine W.wants rfl rfl rfl rfl ?_
      refine W.move rfl rfl ?_
      refine W.wants rfl rfl rfl rfl ?_
      refine W.move rfl rfl ?_
      refine W.wants rfl rfl rfl rfl ?_
      refine W.lenS rfl Try.underlying48 rfl ?_
      refine W.wants rfl rfl rfl rfl ?_
      refine W.geqI rfl rfl rfl ?_
      refine W.pickF rfl rfl rfl ?_
      refine W.move rfl rfl ?_
      first | refine W.splitD (fun g29 => ?_) (fun g29 => ?_) | refine W.splitB (fun g29 => ?_) (fun g29 => ?_)
      · refine W.skips rfl rfl rfl rfl rfl rfl ?_
        refine W.skips rfl rfl rfl rfl rfl rfl ?_
        refine W.skips rfl rfl rfl rfl rfl rfl ?_
        refine W.skips rfl rfl rfl rfl rfl rfl ?_
        refine W.pickT rfl rfl rfl ?_
        refine W.nil ?_
        refine At.thenCode ?_
        refine C.condT rfl ?_
        refine C.seq ?_
        refine C.region ?_
        refine W.assign rfl rfl ?_
        refine W.assign rfl rfl ?_
        refine W.nil ?_
        refine At.thenCode ?_
        refine C.ret ?_
        refine At.thenRet ?_
        refine At.blockRet ?_
        refine At.thenRet ?_
        refine At.thenRet ?_
        refine At.blockRet ?_
        refine At.thenRet ?_
        refine At.ret2 Try.results30 rfl rfl ?_
        first
        | (have hno : ¬ Rt L := by
             refine not_Rt hlt (fun hc => ?_)
             rw [← hx] at hc
             first
               | (have := hc.1; omega)
               | (obtain ⟨j, h1, h2⟩ := (metP_get (L := L) x.toNat i hR (by omega)).1 (by simp_all)
                  exact hc.2 j h1 (by rw [h2]; omega))
           exact ⟨InvR.bad hno, hX1⟩)
        | (obtain rfl : i = n := by omega
           rw [hn] at hR hO1
           exact ⟨InvR.good hR hn (by rw [hn]; exact hO1), hX1⟩)
      · refine W.wants rfl rfl rfl rfl ?_
        refine W.move rfl rfl ?_
        refine W.wants rfl rfl rfl rfl ?_
        refine W.move rfl rfl ?_
        refine W.wants rfl rfl rfl rfl ?_
        refine W.indexS (i := x) XB Try.underlying79 rfl (own_slz hM1) rfl ⟨by omega, by omega⟩ rfl ?_
        intro ad32 _ had32 _
        obtain rfl : ad32 = ⟨g13, x.toNat, none⟩ := by rw [had32 _ rfl, add_mk, Nat.zero_add, Nat.mul_one]
        refine W.wants rfl rfl rfl rfl ?_
        have hml := metP_length L i
        refine W.load (v := .bool ((metP L i).getD x.toNat false)) rfl Try.underlying4 rfl (by
          have := (own_slz hM1).at_ _ rfl x.toNat (.bool ((metP L i).getD x.toNat false)) (get_b (by omega))
          rwa [add_mk, Nat.zero_add] at this) rfl ?_
        refine W.pickF rfl rfl rfl ?_
        refine W.nil ?_
        refine At.thenCode ?_
        first | refine C.condD rfl (fun c34 => ?_) (fun c34 => ?_) | refine C.cond rfl (fun c34 => ?_) (fun c34 => ?_)
        · refine C.seq ?_
          refine C.region ?_
          refine W.assign rfl rfl ?_
          refine W.assign rfl rfl ?_
          refine W.nil ?_
          refine At.thenCode ?_
          refine C.ret ?_
          refine At.thenRet ?_
          refine At.blockRet ?_
          refine At.thenRet ?_
          refine At.thenRet ?_
          refine At.blockRet ?_
          refine At.thenRet ?_
          refine At.ret2 Try.results30 rfl rfl ?_
          first
          | (have hno : ¬ Rt L := by
               refine not_Rt hlt (fun hc => ?_)
               rw [← hx] at hc
               first
                 | (have := hc.1; omega)
                 | (obtain ⟨j, h1, h2⟩ := (metP_get (L := L) x.toNat i hR (by omega)).1 (by simp_all)
                    exact hc.2 j h1 (by rw [h2]; omega))
             exact ⟨InvR.bad hno, hX1⟩)
          | (obtain rfl : i = n := by omega
             rw [hn] at hR hO1
             exact ⟨InvR.good hR hn (by rw [hn]; exact hO1), hX1⟩)
        · have hml := metP_length L i
          have hx0 : 0 ≤ x ∧ x < (L.length : Int) := ⟨by omega, by omega⟩
          have hnm : ∀ j, j < i → L.getD j 0 ≠ L.getD i 0 := fun j hj e => by
            have := (metP_get (L := L) x.toNat i hR (by omega)).2 ⟨j, hj, by rw [e, ← hx]; omega⟩
            simp_all
          have hR2 := RtP_succ hR (by rw [← hx]; exact hx0) hnm
          refine C.skip ?_
          refine At.thenCode ?_
          refine C.region ?_
          refine W.move rfl rfl ?_
          refine W.move rfl rfl ?_
          refine W.move rfl rfl ?_
          refine W.move rfl rfl ?_
          refine W.move rfl rfl ?_
          refine W.indexS (i := x) XI Try.underlying48 rfl (own_slz hO1) rfl ⟨by omega, by omega⟩ rfl ?_
          intro ad40 _ had40 _
          obtain rfl : ad40 = ⟨g10, x.toNat, none⟩ := by rw [had40 _ rfl, add_mk, Nat.zero_add, Nat.mul_one]
          refine W.storeO rfl rfl rfl hO1 (by omega) (by kernel_rfl) ?_
          intro w5 hc5 hO5
          have hM5 := ownsRow_chg hM1 hc5 (fun k hk h => by have h2 : g13 = k := Option.some.inj hk; omega)
          refine W.indexS (i := x) XB Try.underlying79 rfl (own_slz hM5) rfl ⟨by omega, by omega⟩ rfl ?_
          intro ad41 _ had41 _
          obtain rfl : ad41 = ⟨g13, x.toNat, none⟩ := by rw [had41 _ rfl, add_mk, Nat.zero_add, Nat.mul_one]
          refine W.storeO rfl rfl rfl hM5 (by omega) (by kernel_rfl) ?_
          intro w6 hc6 hM6
          have hO6 := ownsRow_chg hO5 hc6 (fun k hk h => by have h2 : g10 = k := Option.some.inj hk; omega)
          rw [z_set] at hO6
          rw [b_set] at hM6
          refine W.nil ?_
          refine At.blockNormal ?_
          refine At.thenCode ?_
          refine C.region ?_
          first | refine W.addI rfl rfl (by omega) rfl ?_ | refine W.addW rfl rfl rfl ?_
          refine W.move rfl rfl ?_
          refine W.nil ?_
          refine At.thenRound (i + 1) (Sub.cons (rfl) (Sub.cons (rfl) (Sub.cons (rfl) (Sub.cons (rfl) (Sub.cons (rfl) (Sub.cons (rfl) (Sub.nil))))))) (show Ext w _ ∧ (i + 1) ≤ n ∧ RtP L (i + 1) ∧ World.ownsRow _ w.heap.size 3 1 (.slice (some ⟨g10, 0, none⟩) n n) n ((invP L (i + 1)).map (.int .i64)) ∧ World.ownsRow _ w10.heap.size 4 1 (.slice (some ⟨g13, 0, none⟩) n n) n ((metP L (i + 1)).map .bool) from ?_) (show n - (i + 1) < n - i from ?_)
          · refine ⟨(hX1.news hc5 (fun k hk => Or.inr (by omega))).news hc6 (fun k hk => Or.inr (by omega)), by omega, hR2, ?_, ?_⟩
            · rw [invP, ← hx]; exact hO6
            · rw [metP, ← hx]; exact hM6
          · omega
  · refine C.exit ?_
    refine At.thenExit ?_
    refine At.thenExit ?_
    refine At.blockSelf ?_
    refine At.thenCode ?_
    refine C.seq ?_
    refine C.region ?_
    refine W.move rfl rfl ?_
    refine W.assign rfl rfl ?_
    refine W.assign rfl rfl ?_
    refine W.nil ?_
    refine At.thenCode ?_
    refine C.ret ?_
    refine At.ret2 Try.results30 rfl rfl ?_
    first
    | (have hno : ¬ Rt L := by
         refine not_Rt hlt (fun hc => ?_)
         rw [← hx] at hc
         first
           | (have := hc.1; omega)
           | (obtain ⟨j, h1, h2⟩ := (metP_get (L := L) x.toNat i hR (by omega)).1 (by simp_all)
              exact hc.2 j h1 (by rw [h2]; omega))
       exact ⟨InvR.bad hno, hX1⟩)
    | (obtain rfl : i = n := by omega
       rw [hn] at hR hO1
       exact ⟨InvR.good hR hn (by rw [hn]; exact hO1), hX1⟩)
theorem Right_ok (ao : Option Addr) (c : Nat) (L : List Int) (w : World) (hS : Zs w ao c L) (hl : L.length ≤ 100000) :
    Ct Try.prog 29 #[.slice ao L.length c] w (fun v w' => v = .bool (decide (Rt L)) ∧ Ext w w') := by
  refine Ct.enter [(0, .slice ao L.length c)] Try.func29 rfl rfl rfl rfl ?_
  refine C.seq ?_
  refine C.region ?_
  refine W.assign rfl rfl ?_
  refine W.nil ?_
  refine At.thenCode ?_
  refine C.seq ?_
  refine C.region ?_
  refine W.move rfl rfl ?_
  refine W.call Try.call30 rfl (Inverse_ok ao c L _ hS hl) rfl ?_
  rintro v7 w7 ⟨⟨a7, c7, rfl, hS7, hb7⟩, hX7⟩
  refine W.move rfl rfl ?_
  refine W.extract rfl rfl rfl ?_
  refine W.extract rfl rfl rfl ?_
  refine W.assign rfl rfl ?_
  refine W.assign rfl rfl ?_
  refine W.nil ?_
  refine At.thenCode ?_
  refine C.seq ?_
  refine C.region ?_
  refine W.move rfl rfl ?_
  refine W.assign rfl rfl ?_
  refine W.nil ?_
  refine At.thenCode ?_
  refine C.ret ?_
  refine At.ret1 Try.results29 rfl ?_
  exact ⟨rfl, hX7⟩
theorem RightOrder_ok (ao : Option Addr) (c : Nat) (L : List Int) (w : World) (hS : Zs w ao c L) (hl : L.length ≤ 100000) :
    Ct Try.prog 32 #[.slice ao L.length c] w (fun v w' => v = .bool (decide (Rt L)) ∧ Ext w w') := by
  refine Ct.enter [(0, .slice ao L.length c)] Try.func32 rfl rfl rfl rfl ?_
  refine C.seq ?_
  refine C.region ?_
  refine W.assign rfl rfl ?_
  refine W.nil ?_
  refine At.thenCode ?_
  refine C.seq ?_
  refine C.seq ?_
  refine C.region ?_
  refine W.assign rfl rfl ?_
  refine W.nil ?_
  refine At.thenCode ?_
  refine C.block ?_
  refine C.loop (X := Nat) (fun x_ => [(0, .slice ao L.length c), (3, .int .i64 (x_ : Int))]) (fun x_ w1 => Ext w w1 ∧ x_ ≤ L.length ∧ RtP L x_) (fun x_ => L.length - x_) (0) (Sub.cons (rfl) (Sub.cons (rfl) (Sub.nil))) ?start1 ?_
  case start1 =>
    show Ext w _ ∧ (0) ≤ L.length ∧ RtP L (0)
    exact ⟨Ext.refl _, by omega, RtP_zero L⟩
  rintro i w1 hI_
  replace hI_ : Ext w w1 ∧ i ≤ L.length ∧ RtP L i := hI_
  obtain ⟨hX1, hi, hR⟩ := hI_
  refine C.weaken (l' := [(0, .slice ao L.length c), (3, .int .i64 (i : Int))]) (Sub.cons (rfl) (Sub.cons (rfl) (Sub.nil))) ?_
  refine C.seq ?_
  refine C.seq ?_
  refine C.region ?_
  refine W.move rfl rfl ?_
  refine W.move rfl rfl ?_
  refine W.lenS rfl Try.underlying48 rfl ?_
  refine W.lssI rfl rfl rfl ?_
  refine W.nil ?_
  refine At.thenCode ?_
  first | refine C.condD rfl (fun c8 => ?_) (fun c8 => ?_) | refine C.cond rfl (fun c8 => ?_) (fun c8 => ?_)
  · have hlt : i < L.length := by omega
    obtain ⟨x, hx⟩ : ∃ x, x = L.getD i 0 := ⟨_, rfl⟩
    have hgx : (L.map (.int .i64) : List Value)[i]? = some (.int .i64 x) := by rw [hx]; exact get_z hlt
    refine C.skip ?_
    refine At.thenCode ?_
    refine C.seq ?_
    refine C.block ?_
    refine C.seq ?_
    refine C.seq ?_
    refine C.region ?_
    refine W.move rfl rfl ?_
    refine W.move rfl rfl ?_
    refine W.idx (v := .int .i64 x) XI Try.underlying48 Try.underlying3 rfl rfl (hS.ext hX1) rfl (by omega) ?_ rfl rfl ?_
    · rw [Int.toNat_natCast]
      exact hgx
    intro p13
    -- read with the address
    refine W.lssI rfl rfl rfl ?_
    refine W.move rfl rfl ?_
    first | refine W.splitD (fun g16 => ?_) (fun g16 => ?_) | refine W.splitB (fun g16 => ?_) (fun g16 => ?_)
    · refine W.skips rfl rfl rfl rfl rfl rfl ?_
      refine W.skips rfl rfl rfl rfl rfl rfl ?_
      refine W.skips rfl rfl rfl rfl rfl rfl ?_
      refine W.skips rfl rfl rfl rfl rfl rfl ?_
      refine W.skips rfl rfl rfl rfl rfl rfl ?_
      refine W.skips rfl rfl rfl rfl rfl rfl ?_
      refine W.skips rfl rfl rfl rfl rfl rfl ?_
      refine W.pickT rfl rfl rfl ?_
      refine W.nil ?_
      refine At.thenCode ?_
      refine C.condT rfl ?_
      refine C.seq ?_
      refine C.region ?_
      refine W.assign rfl rfl ?_
      refine W.nil ?_
      refine At.thenCode ?_
      refine C.ret ?_
      refine At.thenRet ?_
      refine At.blockRet ?_
      refine At.thenRet ?_
      refine At.thenRet ?_
      refine At.blockRet ?_
      refine At.thenRet ?_
      refine At.ret1 Try.results32 rfl ?_
      first
      | (have hno : ¬ Rt L := by
           refine not_Rt hlt (fun hc => ?_)
           rw [← hx] at hc
           have := hc.1
           omega
         exact ⟨by rw [decide_eq_false hno], hX1⟩)
      | (have hno : ¬ Rt L := by
           refine not_Rt hlt (fun hc => hc.2 j (by omega) (by simpa using c38))
         exact ⟨by rw [decide_eq_false hno], hX2.ext hX9⟩)
      | (obtain rfl : i = L.length := by omega
         exact ⟨by rw [decide_eq_true (show Rt L from hR)], hX1⟩)
    · refine W.wants rfl rfl rfl rfl ?_
      refine W.move rfl rfl ?_
      refine W.wants rfl rfl rfl rfl ?_
      refine W.move rfl rfl ?_
      refine W.wants rfl rfl rfl rfl ?_
      refine W.indexS (i := (i : Int)) XI Try.underlying48 rfl (hS.ext hX1) rfl ⟨by omega, by omega⟩ rfl ?_
      intro ad19 _ _ hc19
      obtain ⟨ad19', he19, hc19'⟩ := PtI.of hc19 hlt
      obtain rfl : ad19 = ad19' := by injection he19 with h1; exact Option.some.inj h1
      refine W.wants rfl rfl rfl rfl ?_
      refine W.load (v := .int .i64 x) rfl Try.underlying3 rfl (by rw [hx]; exact hc19') rfl ?_
      refine W.wants rfl rfl rfl rfl ?_
      refine W.move rfl rfl ?_
      refine W.wants rfl rfl rfl rfl ?_
      refine W.lenS rfl Try.underlying48 rfl ?_
      refine W.wants rfl rfl rfl rfl ?_
      refine W.geqI rfl rfl rfl ?_
      refine W.pickF rfl rfl rfl ?_
      refine W.nil ?_
      refine At.thenCode ?_
      first | refine C.condD rfl (fun c24 => ?_) (fun c24 => ?_) | refine C.cond rfl (fun c24 => ?_) (fun c24 => ?_)
      · refine C.seq ?_
        refine C.region ?_
        refine W.assign rfl rfl ?_
        refine W.nil ?_
        refine At.thenCode ?_
        refine C.ret ?_
        refine At.thenRet ?_
        refine At.blockRet ?_
        refine At.thenRet ?_
        refine At.thenRet ?_
        refine At.blockRet ?_
        refine At.thenRet ?_
        refine At.ret1 Try.results32 rfl ?_
        first
        | (have hno : ¬ Rt L := by
             refine not_Rt hlt (fun hc => ?_)
             rw [← hx] at hc
             have := hc.1
             omega
           exact ⟨by rw [decide_eq_false hno], hX1⟩)
        | (have hno : ¬ Rt L := by
             refine not_Rt hlt (fun hc => hc.2 j (by omega) (by simpa using c38))
           exact ⟨by rw [decide_eq_false hno], hX2.ext hX9⟩)
        | (obtain rfl : i = L.length := by omega
           exact ⟨by rw [decide_eq_true (show Rt L from hR)], hX1⟩)
      · have hx0 : 0 ≤ x ∧ x < (L.length : Int) := ⟨by omega, by omega⟩
        refine C.skip ?_
        refine At.thenCode ?_
        refine C.seq ?_
        refine C.region ?_
        refine W.assign rfl rfl ?_
        refine W.nil ?_
        refine At.thenCode ?_
        refine C.block ?_
        refine C.loop (X := Nat) (fun x_ => [(0, .slice ao L.length c), (3, .int .i64 (i : Int)), (4, .int .i64 (x_ : Int))]) (fun x_ w2 => Ext w w2 ∧ x_ ≤ i ∧ ∀ q, q < x_ → L.getD q 0 ≠ L.getD i 0) (fun x_ => i - x_) (0) (Sub.cons (rfl) (Sub.cons (rfl) (Sub.cons (rfl) (Sub.nil)))) ?start2 ?_
        case start2 =>
          show Ext w _ ∧ (0) ≤ i ∧ ∀ q, q < (0) → L.getD q 0 ≠ L.getD i 0
          exact ⟨hX1, by omega, fun q hq => by omega⟩
        rintro j w2 hI_
        replace hI_ : Ext w w2 ∧ j ≤ i ∧ ∀ q, q < j → L.getD q 0 ≠ L.getD i 0 := hI_
        obtain ⟨hX2, hj, hne⟩ := hI_
        refine C.weaken (l' := [(0, .slice ao L.length c), (3, .int .i64 (i : Int)), (4, .int .i64 (j : Int))]) (Sub.cons (rfl) (Sub.cons (rfl) (Sub.cons (rfl) (Sub.nil)))) ?_
        refine C.seq ?_
        refine C.seq ?_
        refine C.region ?_
        refine W.move rfl rfl ?_
        refine W.move rfl rfl ?_
        refine W.lssI rfl rfl rfl ?_
        refine W.nil ?_
        refine At.thenCode ?_
        first | refine C.condD rfl (fun c27 => ?_) (fun c27 => ?_) | refine C.cond rfl (fun c27 => ?_) (fun c27 => ?_)
        · have hjl : j < L.length := by omega
          refine C.skip ?_
          refine At.thenCode ?_
          refine C.seq ?_
          refine C.block ?_
          refine C.seq ?_
          refine C.regionAny 9 ((fun v w => v = .slice ao L.length c) :: (fun v w => v = .int .i64 (j : Int)) :: (fun v w => PtI w v (L.getD j 0)) :: (fun v w => v = .int .i64 (L.getD j 0)) :: (fun v w => v = .slice ao L.length c) :: (fun v w => v = .int .i64 (i : Int)) :: (fun v w => PtI w v (L.getD i 0)) :: (fun v w => v = .int .i64 (L.getD i 0)) :: (fun v w => v = .bool (decide (L.getD j 0 = L.getD i 0))) :: []) [(0, .slice ao L.length c), (3, .int .i64 (i : Int)), (4, .int .i64 (j : Int))] [] (Sub.cons (rfl) (Sub.cons (rfl) (Sub.cons (rfl) (Sub.nil)))) (Sub.nil) (Sub.cons (rfl) (Sub.cons (rfl) (Sub.cons (rfl) (Sub.nil)))) (by kernel_rfl) rfl rfl rfl (And.intro (fun _ _ _ h _ => h) (And.intro (fun _ _ _ h _ => h) (And.intro (fun _ _ _ h g => h.ext g) (And.intro (fun _ _ _ h _ => h) (And.intro (fun _ _ _ h _ => h) (And.intro (fun _ _ _ h _ => h) (And.intro (fun _ _ _ h g => h.ext g) (And.intro (fun _ _ _ h _ => h) (And.intro (fun _ _ _ h _ => h) (trivial)))))))))) ?_ ?_
          · refine And.intro ?_ ?_
            · intro L_ w3 hX_ hs_ hf_ hd_
              refine W.step [(0, _)] (Sub.cons (hs_ _ _ rfl) (Sub.refl _)) ?_
              refine W.move rfl rfl ?_
              refine W.nil ?_
              exact At.step (Ext.refl _) rfl
            refine And.intro ?_ ?_
            · intro L_ w3 hX_ hs_ hf_ hd_
              refine W.step [(4, _)] (Sub.cons (hs_ _ _ rfl) (Sub.refl _)) ?_
              refine W.move rfl rfl ?_
              refine W.nil ?_
              exact At.step (Ext.refl _) rfl
            refine And.intro ?_ ?_
            · intro L_ w3 hX_ hs_ hf_ hd_
              obtain ⟨v0, e0, r0⟩ := hd_ 0 rfl
              obtain rfl : (.slice ao L.length c : Value) = v0 := Eq.symm r0
              obtain ⟨v1, e1, r1⟩ := hd_ 1 rfl
              obtain rfl : (.int .i64 (j : Int) : Value) = v1 := Eq.symm r1
              refine W.step [(30, _), (31, _)] (Sub.cons (e0 _ rfl) (Sub.cons (e1 _ rfl) (Sub.refl _))) ?_
              refine W.indexS (i := (j : Int)) XI Try.underlying48 rfl ((hS.ext hX2).ext hX_) rfl ⟨by omega, by omega⟩ rfl ?_
              intro ad32 _ _ hc32
              have hp32 := PtI.of hc32 hjl
              refine W.nil ?_
              exact At.step (Ext.refl _) hp32
            refine And.intro ?_ ?_
            · intro L_ w3 hX_ hs_ hf_ hd_
              obtain ⟨v2, e2, r2⟩ := hd_ 2 rfl
              obtain ⟨ad2, rfl, hc2⟩ := r2
              refine W.step [(32, _)] (Sub.cons (e2 _ rfl) (Sub.refl _)) ?_
              refine W.load (v := .int .i64 (L.getD j 0)) rfl Try.underlying3 rfl hc2 rfl ?_
              refine W.nil ?_
              exact At.step (Ext.refl _) rfl
            refine And.intro ?_ ?_
            · intro L_ w3 hX_ hs_ hf_ hd_
              refine W.step [(0, _)] (Sub.cons (hs_ _ _ rfl) (Sub.refl _)) ?_
              refine W.move rfl rfl ?_
              refine W.nil ?_
              exact At.step (Ext.refl _) rfl
            refine And.intro ?_ ?_
            · intro L_ w3 hX_ hs_ hf_ hd_
              refine W.step [(3, _)] (Sub.cons (hs_ _ _ rfl) (Sub.refl _)) ?_
              refine W.move rfl rfl ?_
              refine W.nil ?_
              exact At.step (Ext.refl _) rfl
            refine And.intro ?_ ?_
            · intro L_ w3 hX_ hs_ hf_ hd_
              obtain ⟨v4, e4, r4⟩ := hd_ 4 rfl
              obtain rfl : (.slice ao L.length c : Value) = v4 := Eq.symm r4
              obtain ⟨v5, e5, r5⟩ := hd_ 5 rfl
              obtain rfl : (.int .i64 (i : Int) : Value) = v5 := Eq.symm r5
              refine W.step [(34, _), (35, _)] (Sub.cons (e4 _ rfl) (Sub.cons (e5 _ rfl) (Sub.refl _))) ?_
              refine W.indexS (i := (i : Int)) XI Try.underlying48 rfl ((hS.ext hX2).ext hX_) rfl ⟨by omega, by omega⟩ rfl ?_
              intro ad36 _ _ hc36
              have hp36 := PtI.of hc36 hlt
              refine W.nil ?_
              exact At.step (Ext.refl _) hp36
            refine And.intro ?_ ?_
            · intro L_ w3 hX_ hs_ hf_ hd_
              obtain ⟨v6, e6, r6⟩ := hd_ 6 rfl
              obtain ⟨ad6, rfl, hc6⟩ := r6
              refine W.step [(36, _)] (Sub.cons (e6 _ rfl) (Sub.refl _)) ?_
              refine W.load (v := .int .i64 (L.getD i 0)) rfl Try.underlying3 rfl hc6 rfl ?_
              refine W.nil ?_
              exact At.step (Ext.refl _) rfl
            refine And.intro ?_ ?_
            · intro L_ w3 hX_ hs_ hf_ hd_
              obtain ⟨v3, e3, r3⟩ := hd_ 3 rfl
              obtain rfl : (.int .i64 (L.getD j 0) : Value) = v3 := Eq.symm r3
              obtain ⟨v7, e7, r7⟩ := hd_ 7 rfl
              obtain rfl : (.int .i64 (L.getD i 0) : Value) = v7 := Eq.symm r7
              refine W.step [(33, _), (37, _)] (Sub.cons (e3 _ rfl) (Sub.cons (e7 _ rfl) (Sub.refl _))) ?_
              refine W.eqlI rfl rfl rfl ?_
              refine W.nil ?_
              exact At.step (Ext.refl _) rfl
            exact trivial
          · intro L_ w3 hX9 hs_ hv_
            obtain ⟨v8, e8, r8⟩ := hv_ 8 (by decide)
            obtain rfl : (.bool (decide (L.getD j 0 = L.getD i 0)) : Value) = v8 := Eq.symm r8
            refine W.weaken (l' := [(38, _), (0, _), (3, _), (4, _)]) (Sub.cons (e8 _ rfl) (Sub.cons (hs_ _ _ rfl) (Sub.cons (hs_ _ _ rfl) (Sub.cons (hs_ _ _ rfl) (Sub.nil))))) ?_
            refine W.nil ?_
            refine At.thenCode ?_
            first | refine C.condD rfl (fun c38 => ?_) (fun c38 => ?_) | refine C.cond rfl (fun c38 => ?_) (fun c38 => ?_)
            · refine C.seq ?_
              refine C.region ?_
              refine W.assign rfl rfl ?_
              refine W.nil ?_
              refine At.thenCode ?_
              refine C.ret ?_
              refine At.blockRet ?_
              refine At.thenRet ?_
              refine At.thenRet ?_
              refine At.blockRet ?_
              refine At.blockRet ?_
              refine At.thenRet ?_
              refine At.thenRet ?_
              refine At.blockRet ?_
              refine At.thenRet ?_
              refine At.ret1 Try.results32 rfl ?_
              first
              | (have hno : ¬ Rt L := by
                   refine not_Rt hlt (fun hc => ?_)
                   rw [← hx] at hc
                   have := hc.1
                   omega
                 exact ⟨by rw [decide_eq_false hno], hX1⟩)
              | (have hno : ¬ Rt L := by
                   refine not_Rt hlt (fun hc => hc.2 j (by omega) (by simpa using c38))
                 exact ⟨by rw [decide_eq_false hno], hX2.ext hX9⟩)
              | (obtain rfl : i = L.length := by omega
                 exact ⟨by rw [decide_eq_true (show Rt L from hR)], hX1⟩)
            · refine C.skip ?_
              refine At.blockNormal ?_
              refine At.thenCode ?_
              refine C.region ?_
              refine W.move rfl rfl ?_
              first | refine W.addI rfl rfl (by omega) rfl ?_ | refine W.addW rfl rfl rfl ?_
              refine W.assign rfl rfl ?_
              refine W.nil ?_
              refine At.thenRound (j + 1) (Sub.cons (rfl) (Sub.cons (rfl) (Sub.cons (rfl) (Sub.nil)))) (show Ext w _ ∧ (j + 1) ≤ i ∧ ∀ q, q < (j + 1) → L.getD q 0 ≠ L.getD i 0 from ?_) (show i - (j + 1) < i - j from ?_)
              · refine ⟨hX2.ext hX9, by omega, fun q hq => ?_⟩
                by_cases e : q = j
                · subst e; simpa using c38
                · exact hne q (by omega)
              · omega
        · refine C.exit ?_
          refine At.thenExit ?_
          refine At.thenExit ?_
          refine At.blockSelf ?_
          refine At.blockNormal ?_
          refine At.thenCode ?_
          refine C.region ?_
          refine W.move rfl rfl ?_
          first | refine W.addI rfl rfl (by omega) rfl ?_ | refine W.addW rfl rfl rfl ?_
          refine W.assign rfl rfl ?_
          refine W.nil ?_
          refine At.thenRound (i + 1) (Sub.cons (rfl) (Sub.cons (rfl) (Sub.nil))) (show Ext w _ ∧ (i + 1) ≤ L.length ∧ RtP L (i + 1) from ?_) (show L.length - (i + 1) < L.length - i from ?_)
          · exact ⟨hX2, by omega, RtP_succ hR (by rw [← hx]; exact hx0) (fun q hq => hne q (by omega))⟩
          · omega
  · refine C.exit ?_
    refine At.thenExit ?_
    refine At.thenExit ?_
    refine At.blockSelf ?_
    refine At.thenCode ?_
    refine C.seq ?_
    refine C.region ?_
    refine W.assign rfl rfl ?_
    refine W.nil ?_
    refine At.thenCode ?_
    refine C.ret ?_
    refine At.ret1 Try.results32 rfl ?_
    first
    | (have hno : ¬ Rt L := by
         refine not_Rt hlt (fun hc => ?_)
         rw [← hx] at hc
         have := hc.1
         omega
       exact ⟨by rw [decide_eq_false hno], hX1⟩)
    | (have hno : ¬ Rt L := by
         refine not_Rt hlt (fun hc => hc.2 j (by omega) (by simpa using c38))
       exact ⟨by rw [decide_eq_false hno], hX2.ext hX9⟩)
    | (obtain rfl : i = L.length := by omega
       exact ⟨by rw [decide_eq_true (show Rt L from hR)], hX1⟩)
theorem RInverse_ok (ao : Option Addr) (c : Nat) (L : List Int) (w : World) (hS : Zs w ao c L) (hl : L.length ≤ 100000) :
    Ct Try.prog 31 #[.slice ao L.length c] w (fun v w' => InvR L w.heap.size v w' ∧ Ext w w') := by
  refine Ct.enter [(0, .slice ao L.length c)] Try.func31 rfl rfl rfl rfl ?_
  refine C.seq ?_
  refine C.region ?_
  refine W.assign rfl rfl ?_
  refine W.assign rfl rfl ?_
  refine W.nil ?_
  refine At.thenCode ?_
  refine C.seq ?_
  refine C.seq ?_
  refine C.region ?_
  refine W.move rfl rfl ?_
  refine W.call Try.call32 rfl (RightOrder_ok ao c L _ hS hl) rfl ?_
  rintro v7 w7 ⟨rfl, hX7⟩
  first | refine W.notD rfl rfl ?_ | refine W.notB rfl rfl ?_
  refine W.nil ?_
  refine At.thenCode ?_
  first | refine C.condD rfl (fun c8 => ?_) (fun c8 => ?_) | refine C.cond rfl (fun c8 => ?_) (fun c8 => ?_)
  · refine C.seq ?_
    refine C.region ?_
    refine W.assign rfl rfl ?_
    refine W.assign rfl rfl ?_
    refine W.nil ?_
    refine At.thenCode ?_
    refine C.ret ?_
    refine At.thenRet ?_
    refine At.ret2 Try.results31 rfl rfl ?_
    first
    | (have hno : ¬ Rt L := by simpa using c8
       exact ⟨InvR.bad hno, hX7⟩)
    | (obtain rfl : i = n := by omega
       exact ⟨InvR.good hR hn (by rw [← hn]; exact hO1), hX1⟩)
  · have hR : Rt L := by simpa using c8
    obtain ⟨n, hn⟩ : ∃ n, n = L.length := ⟨_, rfl⟩
    have hS7 : Sl w7 ao n c 1 (L.map (.int .i64)) := by rw [hn]; exact hS.ext hX7
    rw [← hn]
    refine C.skip ?_
    refine At.thenCode ?_
    refine C.seq ?_
    refine C.region ?_
    refine W.move rfl rfl ?_
    refine W.lenS rfl Try.underlying48 rfl ?_
    refine W.make1 (k := n) XI rfl Try.underlying48 rfl rfl rfl rfl (by omega) (by omega) rfl ?_
    intro g10 w10 hg10 hX10 ho10
    have hs7 := hX7.size
    refine W.assign rfl rfl ?_
    refine W.nil ?_
    refine At.thenCode ?_
    refine C.seq ?_
    refine C.seq ?_
    refine C.region ?_
    refine W.assign rfl rfl ?_
    refine W.nil ?_
    refine At.thenCode ?_
    refine C.block ?_
    refine C.loop (X := Nat) (fun x_ => [(0, .slice ao n c), (4, .slice (some ⟨g10, 0, none⟩) n n), (5, .int .i64 (x_ : Int))]) (fun x_ w1 => Ext w w1 ∧ Ext w7 w1 ∧ x_ ≤ n ∧ World.ownsRow w1 w.heap.size 3 1 (.slice (some ⟨g10, 0, none⟩) n n) n ((invP L x_).map (.int .i64))) (fun x_ => n - x_) (0) (Sub.cons (rfl) (Sub.cons (rfl) (Sub.cons (rfl) (Sub.nil)))) ?start1 ?_
    case start1 =>
      show Ext w _ ∧ Ext w7 _ ∧ (0) ≤ n ∧ World.ownsRow _ w.heap.size 3 1 (.slice (some ⟨g10, 0, none⟩) n n) n ((invP L (0)).map (.int .i64))
      exact ⟨hX7.ext hX10, hX10, by omega, by rw [invP, List.map_replicate, ← hn]; exact ownsRow_base ho10 hs7⟩
    rintro i w1 hI_
    replace hI_ : Ext w w1 ∧ Ext w7 w1 ∧ i ≤ n ∧ World.ownsRow w1 w.heap.size 3 1 (.slice (some ⟨g10, 0, none⟩) n n) n ((invP L i).map (.int .i64)) := hI_
    obtain ⟨hX1, hX71, hi, hO1⟩ := hI_
    refine C.weaken (l' := [(0, .slice ao n c), (4, .slice (some ⟨g10, 0, none⟩) n n), (5, .int .i64 (i : Int))]) (Sub.cons (rfl) (Sub.cons (rfl) (Sub.cons (rfl) (Sub.nil)))) ?_
    refine C.seq ?_
    refine C.seq ?_
    refine C.region ?_
    refine W.move rfl rfl ?_
    refine W.move rfl rfl ?_
    refine W.lenS rfl Try.underlying48 rfl ?_
    refine W.lssI rfl rfl rfl ?_
    refine W.nil ?_
    refine At.thenCode ?_
    first | refine C.condD rfl (fun c15 => ?_) (fun c15 => ?_) | refine C.cond rfl (fun c15 => ?_) (fun c15 => ?_)
    · have hlt : i < L.length := by omega
      obtain ⟨x, hx⟩ : ∃ x, x = L.getD i 0 := ⟨_, rfl⟩
      have hgx : (L.map (.int .i64) : List Value)[i]? = some (.int .i64 x) := by rw [hx]; exact get_z hlt
      have hxr := hR.range hlt
      rw [← hx] at hxr
      refine C.skip ?_
      refine At.thenCode ?_
      refine C.seq ?_
      refine C.block ?_
      refine C.region ?_
      refine W.move rfl rfl ?_
      refine W.move rfl rfl ?_
      refine W.move rfl rfl ?_
      refine W.idx (v := .int .i64 x) XI Try.underlying48 Try.underlying3 rfl rfl (hS7.ext hX71) rfl (by omega) ?_ rfl rfl ?_
      · rw [Int.toNat_natCast]
        exact hgx
      intro p21
      -- read with the address
      refine W.move rfl rfl ?_
      refine W.indexS (i := x) XI Try.underlying48 rfl (own_slz hO1) rfl ⟨by omega, by omega⟩ rfl ?_
      intro ad24 _ had24 _
      obtain rfl : ad24 = ⟨g10, x.toNat, none⟩ := by rw [had24 _ rfl, add_mk, Nat.zero_add, Nat.mul_one]
      refine W.storeO rfl rfl rfl hO1 (by omega) (by kernel_rfl) ?_
      intro w5 hc5 hO5
      rw [z_set] at hO5
      refine W.nil ?_
      refine At.blockNormal ?_
      refine At.thenCode ?_
      refine C.region ?_
      refine W.move rfl rfl ?_
      first | refine W.addI rfl rfl (by omega) rfl ?_ | refine W.addW rfl rfl rfl ?_
      refine W.assign rfl rfl ?_
      refine W.nil ?_
      refine At.thenRound (i + 1) (Sub.cons (rfl) (Sub.cons (rfl) (Sub.cons (rfl) (Sub.nil)))) (show Ext w _ ∧ Ext w7 _ ∧ (i + 1) ≤ n ∧ World.ownsRow _ w.heap.size 3 1 (.slice (some ⟨g10, 0, none⟩) n n) n ((invP L (i + 1)).map (.int .i64)) from ?_) (show n - (i + 1) < n - i from ?_)
      · refine ⟨hX1.news hc5 (fun k hk => Or.inr (by omega)), hX71.news hc5 (fun k hk => Or.inr (by omega)), by omega, ?_⟩
        rw [invP, ← hx]; exact hO5
      · omega
    · refine C.exit ?_
      refine At.thenExit ?_
      refine At.thenExit ?_
      refine At.blockSelf ?_
      refine At.thenCode ?_
      refine C.seq ?_
      refine C.region ?_
      refine W.move rfl rfl ?_
      refine W.assign rfl rfl ?_
      refine W.assign rfl rfl ?_
      refine W.nil ?_
      refine At.thenCode ?_
      refine C.ret ?_
      refine At.ret2 Try.results31 rfl rfl ?_
      first
      | (have hno : ¬ Rt L := by simpa using c8
         exact ⟨InvR.bad hno, hX7⟩)
      | (obtain rfl : i = n := by omega
         exact ⟨InvR.good hR hn (by rw [← hn]; exact hO1), hX1⟩)
end Go.Proofs.Ytomfnficblnngaa.Perm
