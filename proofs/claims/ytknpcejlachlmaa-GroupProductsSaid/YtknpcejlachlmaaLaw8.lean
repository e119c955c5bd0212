/- The walks of chapter 8's laws. -/
import Derived.Test.YtknpcejlachlmaaGrp
import Derived.Test.YtknpcejlachlmaaMp
import Derived.Test.YtknpcejlachlmaaKr
namespace Go.Proofs.Ytknpcejlachlmaa.Law8
open Go Go.RowKit Go.Proofs.Ytknpcejlachlmaa.KW Go.Proofs.Ytknpcejlachlmaa.Words Go.Proofs.Ytknpcejlachlmaa.Modp Go.Proofs.Ytknpcejlachlmaa.Grp
set_option linter.unusedVariables false
set_option linter.unusedSimpArgs false
set_option maxRecDepth 100000

theorem powP_right {x : Nat} (h : Rt x) (a : Nat) : Rt (powP x a) := by
  refine ⟨?_, powP_lt _ _⟩
  obtain ⟨i, rfl⟩ := generated h.1 h.2
  rw [powP_mul, ← powP_modN (by decide)]
  have := powP_ne0 (i * a % 2305843009213693950) (by have := Nat.mod_lt (i * a) (show 0 < 2305843009213693950 by decide); omega)
  omega
theorem timesV_right {x : Nat} (h : Rt x) (a : Nat) : timesV x a = powP x a := by rw [timesV, if_pos h]
theorem right_mod {x : Nat} (h : Rt x) : x % 2305843009213693951 ≠ 0 := by rw [Nat.mod_eq_of_lt h.2]; omega
theorem times_times {x : Nat} (h : Rt x) (a b : Nat) : timesV (timesV x a) b = timesV x (a * b % 2305843009213693950) := by
  rw [timesV_right h, timesV_right (powP_right h a), timesV_right h, powP_mul, powP_modN (right_mod h)]
theorem prod_times {x : Nat} (h : Rt x) (a b : Nat) : prodG 1 [timesV x a, timesV x b] = timesV x ((a + b) % 2305843009213693950) := by
  rw [timesV_right h, timesV_right h, timesV_right h, prodG_right (powP_right h a), prodG_right (powP_right h b), prodG, powP_modN (right_mod h), powP_add, Nat.one_mul, Nat.mod_eq_of_lt (powP_lt x a)]

theorem alive_ok (w : World) : Ct Try.prog 23 #[] w (fun v w' => v = .bool true ∧ w = w') := by
  refine Ct.enter [] Try.func23 rfl rfl rfl rfl ?_
  refine C.seq ?_
  refine C.region ?_
  refine W.assign rfl rfl ?_
  refine W.nil ?_
  refine At.thenCode ?_
  refine C.seq ?_
  refine C.region ?_
  refine W.call Try.call28 rfl (Base_ok 1 (by decide) _) rfl ?_
  rintro v w' ⟨rfl, rfl⟩
  refine W.eqlU (n := 37) rfl rfl rfl ?_
  refine W.eqv (bT (by rw [timesV, if_pos (by decide), powP_one])) ?_
  refine W.move rfl rfl ?_
  refine W.wants rfl rfl rfl rfl ?_
  refine W.call Try.call24 rfl (Right_ok 1 _) rfl ?_
  rintro v w' ⟨rfl, rfl⟩
  refine W.eqv (bT (by decide)) ?_
  refine W.pickT rfl rfl rfl ?_
  refine W.move rfl rfl ?_
  refine W.wants rfl rfl rfl rfl ?_
  refine W.call Try.call24 rfl (Right_ok 0 _) rfl ?_
  rintro v w' ⟨rfl, rfl⟩
  refine W.eqv (bF (by decide)) ?_
  refine W.wants rfl rfl rfl rfl ?_
  first | refine W.notD rfl rfl ?_ | refine W.notB rfl rfl ?_
  refine W.pickT rfl rfl rfl ?_
  refine W.assign rfl rfl ?_
  refine W.nil ?_
  refine At.thenCode ?_
  refine C.ret ?_
  refine At.ret1 Try.results23 rfl ?_
  exact ⟨rfl, rfl⟩

theorem GroupTells_walk (x e : Nat) (hx : x < 18446744073709551616) (he : e < 18446744073709551616) (w : World) :
    Ct Try.prog 8 #[.int .u64 (x : Int), .int .u64 (e : Int)] w (LawOk w) := by
  refine Ct.enter [(0, .int .u64 (x : Int)), (1, .int .u64 (e : Int))] Try.func8 rfl rfl rfl rfl ?_
  refine C.seq ?_
  refine C.region ?_
  refine W.assign rfl rfl ?_
  refine W.nil ?_
  refine At.thenCode ?_
  refine C.seq ?_
  refine C.region ?_
  refine W.call Try.call23 rfl (Law8.alive_ok _) rfl ?_
  rintro v w' ⟨rfl, rfl⟩
  refine W.assign rfl rfl ?_
  refine W.nil ?_
  refine At.thenCode ?_
  refine C.seq ?_
  refine C.regionAny ((fun v w => v = .bool true) :: (fun v w => v = .bool true) :: (fun v w => v = .int .u64 (x : Int)) :: (fun v w => v = .bool (decide (Rt x))) :: (fun v w => v = .int .u64 (x : Int)) :: (fun v w => v = .bool (decide (Rt x))) :: (fun v w => v = .bool true) :: (fun v w => v = .bool true) :: (fun v w => v = .bool true) :: (fun v w => v = .int .u64 (x : Int)) :: (fun v w => v = .int .u64 (e : Int)) :: (fun v w => v = .int .u64 ((timesV x e : Nat) : Int)) :: (fun v w => v = .int .u64 (x : Int)) :: (fun v w => v = .int .u64 (e : Int)) :: (fun v w => v = .int .u64 ((timesV x e : Nat) : Int)) :: (fun v w => v = .bool true) :: (fun v w => v = .bool true) :: (fun v w => v = .bool true) :: (fun v w => v = .int .u64 (e : Int)) :: (fun v w => v = .int .u64 ((timesV 37 e : Nat) : Int)) :: (fun v w => v = .int .u64 (e : Int)) :: (fun v w => v = .int .u64 ((timesV 37 e : Nat) : Int)) :: (fun v w => v = .bool true) :: (fun v w => v = .bool true) :: (fun v w => v = .bool true) :: (fun v w => v = .int .u64 (x : Int)) :: (fun v w => ∃ b, Ow w b 5 v (be64 x)) :: (fun v w => v = strV (be64 x)) :: (fun v w => v = .int .u64 (x : Int)) :: (fun v w => ∃ b, Ow w b 5 v (be64 x)) :: (fun v w => v = strV (be64 x)) :: (fun v w => v = .bool true) :: (fun v w => v = .bool true) :: (fun v w => v = .bool true) :: []) [(0, .int .u64 (x : Int)), (1, .int .u64 (e : Int)), (5, .bool true)] (Sub.cons (rfl) (Sub.cons (rfl) (Sub.cons (rfl) (Sub.nil)))) (by kernel_rfl) rfl rfl (And.intro (fun _ _ _ h _ => h) (And.intro (fun _ _ _ h _ => h) (And.intro (fun _ _ _ h _ => h) (And.intro (fun _ _ _ h _ => h) (And.intro (fun _ _ _ h _ => h) (And.intro (fun _ _ _ h _ => h) (And.intro (fun _ _ _ h _ => h) (And.intro (fun _ _ _ h _ => h) (And.intro (fun _ _ _ h _ => h) (And.intro (fun _ _ _ h _ => h) (And.intro (fun _ _ _ h _ => h) (And.intro (fun _ _ _ h _ => h) (And.intro (fun _ _ _ h _ => h) (And.intro (fun _ _ _ h _ => h) (And.intro (fun _ _ _ h _ => h) (And.intro (fun _ _ _ h _ => h) (And.intro (fun _ _ _ h _ => h) (And.intro (fun _ _ _ h _ => h) (And.intro (fun _ _ _ h _ => h) (And.intro (fun _ _ _ h _ => h) (And.intro (fun _ _ _ h _ => h) (And.intro (fun _ _ _ h _ => h) (And.intro (fun _ _ _ h _ => h) (And.intro (fun _ _ _ h _ => h) (And.intro (fun _ _ _ h _ => h) (And.intro (fun _ _ _ h _ => h) (And.intro (fun _ _ _ ⟨b, h⟩ g => ⟨b, ownsRow_ext h g⟩) (And.intro (fun _ _ _ h _ => h) (And.intro (fun _ _ _ h _ => h) (And.intro (fun _ _ _ ⟨b, h⟩ g => ⟨b, ownsRow_ext h g⟩) (And.intro (fun _ _ _ h _ => h) (And.intro (fun _ _ _ h _ => h) (And.intro (fun _ _ _ h _ => h) (And.intro (fun _ _ _ h _ => h) (trivial))))))))))))))))))))))))))))))))))) ?_ ?_
  · refine And.intro ?_ ?_
    · intro L_ w8 hX_ hs_ hd_
      refine W.step [(5, _)] (Sub.cons (hs_ _ _ rfl) (Sub.refl _)) ?_
      refine W.move rfl rfl ?_
      refine W.nil ?_
      exact At.step (Ext.refl _) rfl
    refine And.intro ?_ ?_
    · intro L_ w8 hX_ hs_ hd_
      obtain ⟨v0, e0, r0⟩ := hd_ 0 rfl
      obtain rfl : v0 = .bool true := r0
      refine W.step [(7, _)] (Sub.cons e0 (Sub.refl _)) ?_
      refine W.move rfl rfl ?_
      refine W.nil ?_
      exact At.step (Ext.refl _) rfl
    refine And.intro ?_ ?_
    · intro L_ w8 hX_ hs_ hd_
      obtain ⟨v1, e1, r1⟩ := hd_ 1 rfl
      obtain rfl : v1 = .bool true := r1
      refine W.step [(0, _), (8, _)] (Sub.cons (hs_ _ _ rfl) (Sub.cons e1 (Sub.refl _))) ?_
      refine W.wants rfl rfl rfl rfl ?_
      refine W.move rfl rfl ?_
      refine W.nil ?_
      exact At.step (Ext.refl _) rfl
    refine And.intro ?_ ?_
    · intro L_ w8 hX_ hs_ hd_
      obtain ⟨v2, e2, r2⟩ := hd_ 2 rfl
      obtain rfl : v2 = .int .u64 (x : Int) := r2
      obtain ⟨v1, e1, r1⟩ := hd_ 1 rfl
      obtain rfl : v1 = .bool true := r1
      refine W.step [(9, _), (8, _)] (Sub.cons e2 (Sub.cons e1 (Sub.refl _))) ?_
      refine W.wants rfl rfl rfl rfl ?_
      refine W.call Try.call24 rfl (Grp.Right_ok _ _) rfl ?_
      rintro v w' ⟨rfl, rfl⟩
      refine W.nil ?_
      exact At.step (Ext.refl _) rfl
    refine And.intro ?_ ?_
    · intro L_ w8 hX_ hs_ hd_
      obtain ⟨v1, e1, r1⟩ := hd_ 1 rfl
      obtain rfl : v1 = .bool true := r1
      refine W.step [(0, _), (8, _)] (Sub.cons (hs_ _ _ rfl) (Sub.cons e1 (Sub.refl _))) ?_
      refine W.wants rfl rfl rfl rfl ?_
      refine W.move rfl rfl ?_
      refine W.nil ?_
      exact At.step (Ext.refl _) rfl
    refine And.intro ?_ ?_
    · intro L_ w8 hX_ hs_ hd_
      obtain ⟨v4, e4, r4⟩ := hd_ 4 rfl
      obtain rfl : v4 = .int .u64 (x : Int) := r4
      obtain ⟨v1, e1, r1⟩ := hd_ 1 rfl
      obtain rfl : v1 = .bool true := r1
      refine W.step [(11, _), (8, _)] (Sub.cons e4 (Sub.cons e1 (Sub.refl _))) ?_
      refine W.wants rfl rfl rfl rfl ?_
      refine W.call Try.call25 rfl (Grp.RRight_ok _ _) rfl ?_
      rintro v w' ⟨rfl, rfl⟩
      refine W.nil ?_
      exact At.step (Ext.refl _) rfl
    refine And.intro ?_ ?_
    · intro L_ w8 hX_ hs_ hd_
      obtain ⟨v3, e3, r3⟩ := hd_ 3 rfl
      obtain rfl : v3 = .bool (decide (Rt x)) := r3
      obtain ⟨v5, e5, r5⟩ := hd_ 5 rfl
      obtain rfl : v5 = .bool (decide (Rt x)) := r5
      obtain ⟨v1, e1, r1⟩ := hd_ 1 rfl
      obtain rfl : v1 = .bool true := r1
      refine W.step [(10, _), (12, _), (8, _)] (Sub.cons e3 (Sub.cons e5 (Sub.cons e1 (Sub.refl _)))) ?_
      refine W.wants rfl rfl rfl rfl ?_
      refine W.eqlB rfl rfl Try.underlying4 rfl ?_
      refine W.eqv (v' := .bool true) (by simp) ?_
      refine W.nil ?_
      exact At.step (Ext.refl _) rfl
    refine And.intro ?_ ?_
    · intro L_ w8 hX_ hs_ hd_
      obtain ⟨v1, e1, r1⟩ := hd_ 1 rfl
      obtain rfl : v1 = .bool true := r1
      obtain ⟨v6, e6, r6⟩ := hd_ 6 rfl
      obtain rfl : v6 = .bool true := r6
      refine W.step [(8, _), (13, _)] (Sub.cons e1 (Sub.cons e6 (Sub.refl _))) ?_
      refine W.pickT rfl rfl rfl ?_
      refine W.nil ?_
      exact At.step (Ext.refl _) rfl
    refine And.intro ?_ ?_
    · intro L_ w8 hX_ hs_ hd_
      obtain ⟨v7, e7, r7⟩ := hd_ 7 rfl
      obtain rfl : v7 = .bool true := r7
      refine W.step [(14, _)] (Sub.cons e7 (Sub.refl _)) ?_
      refine W.move rfl rfl ?_
      refine W.nil ?_
      exact At.step (Ext.refl _) rfl
    refine And.intro ?_ ?_
    · intro L_ w8 hX_ hs_ hd_
      obtain ⟨v8, e8, r8⟩ := hd_ 8 rfl
      obtain rfl : v8 = .bool true := r8
      refine W.step [(0, _), (15, _)] (Sub.cons (hs_ _ _ rfl) (Sub.cons e8 (Sub.refl _))) ?_
      refine W.wants rfl rfl rfl rfl ?_
      refine W.move rfl rfl ?_
      refine W.nil ?_
      exact At.step (Ext.refl _) rfl
    refine And.intro ?_ ?_
    · intro L_ w8 hX_ hs_ hd_
      obtain ⟨v8, e8, r8⟩ := hd_ 8 rfl
      obtain rfl : v8 = .bool true := r8
      refine W.step [(1, _), (15, _)] (Sub.cons (hs_ _ _ rfl) (Sub.cons e8 (Sub.refl _))) ?_
      refine W.wants rfl rfl rfl rfl ?_
      refine W.move rfl rfl ?_
      refine W.nil ?_
      exact At.step (Ext.refl _) rfl
    refine And.intro ?_ ?_
    · intro L_ w8 hX_ hs_ hd_
      obtain ⟨v9, e9, r9⟩ := hd_ 9 rfl
      obtain rfl : v9 = .int .u64 (x : Int) := r9
      obtain ⟨v10, e10, r10⟩ := hd_ 10 rfl
      obtain rfl : v10 = .int .u64 (e : Int) := r10
      obtain ⟨v8, e8, r8⟩ := hd_ 8 rfl
      obtain rfl : v8 = .bool true := r8
      refine W.step [(16, _), (17, _), (15, _)] (Sub.cons e9 (Sub.cons e10 (Sub.cons e8 (Sub.refl _)))) ?_
      refine W.wants rfl rfl rfl rfl ?_
      refine W.call Try.call26 rfl (Grp.Times_ok _ _ (by first | omega | decide) _) rfl ?_
      rintro v w' ⟨rfl, rfl⟩
      refine W.nil ?_
      exact At.step (Ext.refl _) rfl
    refine And.intro ?_ ?_
    · intro L_ w8 hX_ hs_ hd_
      obtain ⟨v8, e8, r8⟩ := hd_ 8 rfl
      obtain rfl : v8 = .bool true := r8
      refine W.step [(0, _), (15, _)] (Sub.cons (hs_ _ _ rfl) (Sub.cons e8 (Sub.refl _))) ?_
      refine W.wants rfl rfl rfl rfl ?_
      refine W.move rfl rfl ?_
      refine W.nil ?_
      exact At.step (Ext.refl _) rfl
    refine And.intro ?_ ?_
    · intro L_ w8 hX_ hs_ hd_
      obtain ⟨v8, e8, r8⟩ := hd_ 8 rfl
      obtain rfl : v8 = .bool true := r8
      refine W.step [(1, _), (15, _)] (Sub.cons (hs_ _ _ rfl) (Sub.cons e8 (Sub.refl _))) ?_
      refine W.wants rfl rfl rfl rfl ?_
      refine W.move rfl rfl ?_
      refine W.nil ?_
      exact At.step (Ext.refl _) rfl
    refine And.intro ?_ ?_
    · intro L_ w8 hX_ hs_ hd_
      obtain ⟨v12, e12, r12⟩ := hd_ 12 rfl
      obtain rfl : v12 = .int .u64 (x : Int) := r12
      obtain ⟨v13, e13, r13⟩ := hd_ 13 rfl
      obtain rfl : v13 = .int .u64 (e : Int) := r13
      obtain ⟨v8, e8, r8⟩ := hd_ 8 rfl
      obtain rfl : v8 = .bool true := r8
      refine W.step [(19, _), (20, _), (15, _)] (Sub.cons e12 (Sub.cons e13 (Sub.cons e8 (Sub.refl _)))) ?_
      refine W.wants rfl rfl rfl rfl ?_
      refine W.call Try.call27 rfl (Grp.RTimes_ok _ _ (by first | omega | decide) _) rfl ?_
      rintro v w' ⟨rfl, rfl⟩
      refine W.nil ?_
      exact At.step (Ext.refl _) rfl
    refine And.intro ?_ ?_
    · intro L_ w8 hX_ hs_ hd_
      obtain ⟨v11, e11, r11⟩ := hd_ 11 rfl
      obtain rfl : v11 = .int .u64 ((timesV x e : Nat) : Int) := r11
      obtain ⟨v14, e14, r14⟩ := hd_ 14 rfl
      obtain rfl : v14 = .int .u64 ((timesV x e : Nat) : Int) := r14
      obtain ⟨v8, e8, r8⟩ := hd_ 8 rfl
      obtain rfl : v8 = .bool true := r8
      refine W.step [(18, _), (21, _), (15, _)] (Sub.cons e11 (Sub.cons e14 (Sub.cons e8 (Sub.refl _)))) ?_
      refine W.wants rfl rfl rfl rfl ?_
      refine W.eqlU rfl rfl rfl ?_
      refine W.eqv (bT (rfl)) ?_
      refine W.nil ?_
      exact At.step (Ext.refl _) rfl
    refine And.intro ?_ ?_
    · intro L_ w8 hX_ hs_ hd_
      obtain ⟨v8, e8, r8⟩ := hd_ 8 rfl
      obtain rfl : v8 = .bool true := r8
      obtain ⟨v15, e15, r15⟩ := hd_ 15 rfl
      obtain rfl : v15 = .bool true := r15
      refine W.step [(15, _), (22, _)] (Sub.cons e8 (Sub.cons e15 (Sub.refl _))) ?_
      refine W.pickT rfl rfl rfl ?_
      refine W.nil ?_
      exact At.step (Ext.refl _) rfl
    refine And.intro ?_ ?_
    · intro L_ w8 hX_ hs_ hd_
      obtain ⟨v16, e16, r16⟩ := hd_ 16 rfl
      obtain rfl : v16 = .bool true := r16
      refine W.step [(23, _)] (Sub.cons e16 (Sub.refl _)) ?_
      refine W.move rfl rfl ?_
      refine W.nil ?_
      exact At.step (Ext.refl _) rfl
    refine And.intro ?_ ?_
    · intro L_ w8 hX_ hs_ hd_
      obtain ⟨v17, e17, r17⟩ := hd_ 17 rfl
      obtain rfl : v17 = .bool true := r17
      refine W.step [(1, _), (24, _)] (Sub.cons (hs_ _ _ rfl) (Sub.cons e17 (Sub.refl _))) ?_
      refine W.wants rfl rfl rfl rfl ?_
      refine W.move rfl rfl ?_
      refine W.nil ?_
      exact At.step (Ext.refl _) rfl
    refine And.intro ?_ ?_
    · intro L_ w8 hX_ hs_ hd_
      obtain ⟨v18, e18, r18⟩ := hd_ 18 rfl
      obtain rfl : v18 = .int .u64 (e : Int) := r18
      obtain ⟨v17, e17, r17⟩ := hd_ 17 rfl
      obtain rfl : v17 = .bool true := r17
      refine W.step [(25, _), (24, _)] (Sub.cons e18 (Sub.cons e17 (Sub.refl _))) ?_
      refine W.wants rfl rfl rfl rfl ?_
      refine W.call Try.call28 rfl (Grp.Base_ok _ (by first | omega | decide) _) rfl ?_
      rintro v w' ⟨rfl, rfl⟩
      refine W.nil ?_
      exact At.step (Ext.refl _) rfl
    refine And.intro ?_ ?_
    · intro L_ w8 hX_ hs_ hd_
      obtain ⟨v17, e17, r17⟩ := hd_ 17 rfl
      obtain rfl : v17 = .bool true := r17
      refine W.step [(1, _), (24, _)] (Sub.cons (hs_ _ _ rfl) (Sub.cons e17 (Sub.refl _))) ?_
      refine W.wants rfl rfl rfl rfl ?_
      refine W.move rfl rfl ?_
      refine W.nil ?_
      exact At.step (Ext.refl _) rfl
    refine And.intro ?_ ?_
    · intro L_ w8 hX_ hs_ hd_
      obtain ⟨v20, e20, r20⟩ := hd_ 20 rfl
      obtain rfl : v20 = .int .u64 (e : Int) := r20
      obtain ⟨v17, e17, r17⟩ := hd_ 17 rfl
      obtain rfl : v17 = .bool true := r17
      refine W.step [(27, _), (24, _)] (Sub.cons e20 (Sub.cons e17 (Sub.refl _))) ?_
      refine W.wants rfl rfl rfl rfl ?_
      refine W.call Try.call29 rfl (Grp.RBase_ok _ (by first | omega | decide) _) rfl ?_
      rintro v w' ⟨rfl, rfl⟩
      refine W.nil ?_
      exact At.step (Ext.refl _) rfl
    refine And.intro ?_ ?_
    · intro L_ w8 hX_ hs_ hd_
      obtain ⟨v19, e19, r19⟩ := hd_ 19 rfl
      obtain rfl : v19 = .int .u64 ((timesV 37 e : Nat) : Int) := r19
      obtain ⟨v21, e21, r21⟩ := hd_ 21 rfl
      obtain rfl : v21 = .int .u64 ((timesV 37 e : Nat) : Int) := r21
      obtain ⟨v17, e17, r17⟩ := hd_ 17 rfl
      obtain rfl : v17 = .bool true := r17
      refine W.step [(26, _), (28, _), (24, _)] (Sub.cons e19 (Sub.cons e21 (Sub.cons e17 (Sub.refl _)))) ?_
      refine W.wants rfl rfl rfl rfl ?_
      refine W.eqlU rfl rfl rfl ?_
      refine W.eqv (bT (rfl)) ?_
      refine W.nil ?_
      exact At.step (Ext.refl _) rfl
    refine And.intro ?_ ?_
    · intro L_ w8 hX_ hs_ hd_
      obtain ⟨v17, e17, r17⟩ := hd_ 17 rfl
      obtain rfl : v17 = .bool true := r17
      obtain ⟨v22, e22, r22⟩ := hd_ 22 rfl
      obtain rfl : v22 = .bool true := r22
      refine W.step [(24, _), (29, _)] (Sub.cons e17 (Sub.cons e22 (Sub.refl _))) ?_
      refine W.pickT rfl rfl rfl ?_
      refine W.nil ?_
      exact At.step (Ext.refl _) rfl
    refine And.intro ?_ ?_
    · intro L_ w8 hX_ hs_ hd_
      obtain ⟨v23, e23, r23⟩ := hd_ 23 rfl
      obtain rfl : v23 = .bool true := r23
      refine W.step [(30, _)] (Sub.cons e23 (Sub.refl _)) ?_
      refine W.move rfl rfl ?_
      refine W.nil ?_
      exact At.step (Ext.refl _) rfl
    refine And.intro ?_ ?_
    · intro L_ w8 hX_ hs_ hd_
      obtain ⟨v24, e24, r24⟩ := hd_ 24 rfl
      obtain rfl : v24 = .bool true := r24
      refine W.step [(0, _), (31, _)] (Sub.cons (hs_ _ _ rfl) (Sub.cons e24 (Sub.refl _))) ?_
      refine W.wants rfl rfl rfl rfl ?_
      refine W.move rfl rfl ?_
      refine W.nil ?_
      exact At.step (Ext.refl _) rfl
    refine And.intro ?_ ?_
    · intro L_ w8 hX_ hs_ hd_
      obtain ⟨v25, e25, r25⟩ := hd_ 25 rfl
      obtain rfl : v25 = .int .u64 (x : Int) := r25
      obtain ⟨v24, e24, r24⟩ := hd_ 24 rfl
      obtain rfl : v24 = .bool true := r24
      refine W.step [(32, _), (31, _)] (Sub.cons e25 (Sub.cons e24 (Sub.refl _))) ?_
      refine W.wants rfl rfl rfl rfl ?_
      refine W.call Try.call30 rfl (Grp.Bytes_ok _ _) rfl ?_
      rintro v33 w33 ⟨hO33, hX33⟩
      refine W.nil ?_
      exact At.step hX33 ⟨_, hO33⟩
    refine And.intro ?_ ?_
    · intro L_ w8 hX_ hs_ hd_
      obtain ⟨v26, e26, r26⟩ := hd_ 26 rfl
      obtain ⟨b26, r26⟩ := r26
      obtain ⟨ao26, c26, rfl, hS26, hb26⟩ := ownsRow_form r26
      obtain ⟨v24, e24, r24⟩ := hd_ 24 rfl
      obtain rfl : v24 = .bool true := r24
      refine W.step [(33, _), (31, _)] (Sub.cons e26 (Sub.cons e24 (Sub.refl _))) ?_
      refine W.wants rfl rfl rfl rfl ?_
      refine W.bytesStr Try.underlying31 Try.underlying5 Try.underlying9 rfl hS26 rfl ?_
      refine W.nil ?_
      exact At.step (Ext.refl _) rfl
    refine And.intro ?_ ?_
    · intro L_ w8 hX_ hs_ hd_
      obtain ⟨v24, e24, r24⟩ := hd_ 24 rfl
      obtain rfl : v24 = .bool true := r24
      refine W.step [(0, _), (31, _)] (Sub.cons (hs_ _ _ rfl) (Sub.cons e24 (Sub.refl _))) ?_
      refine W.wants rfl rfl rfl rfl ?_
      refine W.move rfl rfl ?_
      refine W.nil ?_
      exact At.step (Ext.refl _) rfl
    refine And.intro ?_ ?_
    · intro L_ w8 hX_ hs_ hd_
      obtain ⟨v28, e28, r28⟩ := hd_ 28 rfl
      obtain rfl : v28 = .int .u64 (x : Int) := r28
      obtain ⟨v24, e24, r24⟩ := hd_ 24 rfl
      obtain rfl : v24 = .bool true := r24
      refine W.step [(35, _), (31, _)] (Sub.cons e28 (Sub.cons e24 (Sub.refl _))) ?_
      refine W.wants rfl rfl rfl rfl ?_
      refine W.call Try.call31 rfl (Grp.RBytes_ok _ _) rfl ?_
      rintro v36 w36 ⟨hO36, hX36⟩
      refine W.nil ?_
      exact At.step hX36 ⟨_, hO36⟩
    refine And.intro ?_ ?_
    · intro L_ w8 hX_ hs_ hd_
      obtain ⟨v29, e29, r29⟩ := hd_ 29 rfl
      obtain ⟨b29, r29⟩ := r29
      obtain ⟨ao29, c29, rfl, hS29, hb29⟩ := ownsRow_form r29
      obtain ⟨v24, e24, r24⟩ := hd_ 24 rfl
      obtain rfl : v24 = .bool true := r24
      refine W.step [(36, _), (31, _)] (Sub.cons e29 (Sub.cons e24 (Sub.refl _))) ?_
      refine W.wants rfl rfl rfl rfl ?_
      refine W.bytesStr Try.underlying31 Try.underlying5 Try.underlying9 rfl hS29 rfl ?_
      refine W.nil ?_
      exact At.step (Ext.refl _) rfl
    refine And.intro ?_ ?_
    · intro L_ w8 hX_ hs_ hd_
      obtain ⟨v27, e27, r27⟩ := hd_ 27 rfl
      obtain rfl : v27 = strV (be64 x) := r27
      obtain ⟨v30, e30, r30⟩ := hd_ 30 rfl
      obtain rfl : v30 = strV (be64 x) := r30
      obtain ⟨v24, e24, r24⟩ := hd_ 24 rfl
      obtain rfl : v24 = .bool true := r24
      refine W.step [(34, _), (37, _), (31, _)] (Sub.cons e27 (Sub.cons e30 (Sub.cons e24 (Sub.refl _)))) ?_
      refine W.wants rfl rfl rfl rfl ?_
      refine W.eqlStr rfl rfl rfl ?_
      refine W.eqv (bT (rfl)) ?_
      refine W.nil ?_
      exact At.step (Ext.refl _) rfl
    refine And.intro ?_ ?_
    · intro L_ w8 hX_ hs_ hd_
      obtain ⟨v24, e24, r24⟩ := hd_ 24 rfl
      obtain rfl : v24 = .bool true := r24
      obtain ⟨v31, e31, r31⟩ := hd_ 31 rfl
      obtain rfl : v31 = .bool true := r31
      refine W.step [(31, _), (38, _)] (Sub.cons e24 (Sub.cons e31 (Sub.refl _))) ?_
      refine W.pickT rfl rfl rfl ?_
      refine W.nil ?_
      exact At.step (Ext.refl _) rfl
    refine And.intro ?_ ?_
    · intro L_ w8 hX_ hs_ hd_
      obtain ⟨v32, e32, r32⟩ := hd_ 32 rfl
      obtain rfl : v32 = .bool true := r32
      refine W.step [(39, _)] (Sub.cons e32 (Sub.refl _)) ?_
      refine W.assign rfl rfl ?_
      refine W.nil ?_
      exact At.step (Ext.refl _) rfl
    exact trivial
  · intro L_ w8 hX2 hs_ hv_
    obtain ⟨v33, e33, r33⟩ := hv_ 33 (by decide)
    obtain rfl : v33 = .bool true := r33
    refine At.weaken (l' := [(4, _), (0, _), (1, _), (5, _)]) (Sub.cons e33 (Sub.cons (hs_ _ _ rfl) (Sub.cons (hs_ _ _ rfl) (Sub.cons (hs_ _ _ rfl) (Sub.nil))))) ?_
    refine At.thenCode ?_
    refine C.ret ?_
    refine At.ret1 Try.results8 rfl ?_
    exact ⟨rfl, Ext.below hX2⟩

theorem GroupProducts_walk (ao : Option Addr) (c : Nat) (xs : List Nat) (w : World) (hS : Us w ao c xs) (hl : xs.length ≤ 9223372036854775807) (hb : ∀ x ∈ xs, x < 18446744073709551616) :
    Ct Try.prog 9 #[.slice ao xs.length c] w (LawOk w) := by
  refine Ct.enter [(0, .slice ao xs.length c)] Try.func9 rfl rfl rfl rfl ?_
  refine C.seq ?_
  refine C.region ?_
  refine W.assign rfl rfl ?_
  refine W.nil ?_
  refine At.thenCode ?_
  refine C.seq ?_
  refine C.region ?_
  refine W.call Try.call23 rfl (Law8.alive_ok _) rfl ?_
  rintro v w' ⟨rfl, rfl⟩
  refine W.assign rfl rfl ?_
  refine W.nil ?_
  refine At.thenCode ?_
  refine C.seq ?_
  refine C.seq ?_
  refine C.region ?_
  refine W.move rfl rfl ?_
  first | refine W.notD rfl rfl ?_ | refine W.notB rfl rfl ?_
  refine W.move rfl rfl ?_
  refine W.wants rfl rfl rfl rfl ?_
  refine W.move rfl rfl ?_
  refine W.wants rfl rfl rfl rfl ?_
  refine W.lenS rfl Try.underlying33 rfl ?_
  refine W.wants rfl rfl rfl rfl ?_
  refine W.gtrI rfl rfl rfl ?_
  refine W.pickF rfl rfl rfl ?_
  refine W.nil ?_
  refine At.thenCode ?_
  first | refine C.condD rfl (fun c11 => ?_) (fun c11 => ?_) | refine C.cond rfl (fun c11 => ?_) (fun c11 => ?_)
  · refine C.seq ?_
    refine C.region ?_
    refine W.move rfl rfl ?_
    refine W.assign rfl rfl ?_
    refine W.nil ?_
    refine At.thenCode ?_
    refine C.ret ?_
    refine At.thenRet ?_
    refine At.ret1 Try.results9 rfl ?_
    exact ⟨rfl, Below.refl _ _⟩
  · refine C.skip ?_
    refine At.thenCode ?_
    refine C.seq ?_
    refine C.region ?_
    refine W.move rfl rfl ?_
    refine W.appendU (xs := []) E64 Try.underlying33 rfl rfl (World.ownsRow_nil _ _ _ _) hS (by simp; omega) (Nat.le_refl _) rfl ?_
    rw [List.nil_append]
    intro v14 w14 ho14 hg14 _
    have hX14 : Ext w w14 := (Chg.of_grown hg14).mono fun k hk => by cases hk
    obtain ⟨ao14, c14, rfl, hS14, hb14⟩ := ownsRow_form ho14
    have hS := hS.ext hX14
    refine W.call Try.call32 rfl (Product_ok _ _ _ _ hS14 (by omega) hb) rfl ?_
    rintro v w' ⟨rfl, rfl⟩
    refine W.move rfl rfl ?_
    refine W.call Try.call33 rfl (RProduct_ok _ _ _ _ hS (by omega) hb) rfl ?_
    rintro v w' ⟨rfl, rfl⟩
    refine W.eqlU rfl rfl rfl ?_
    refine W.eqv (bT (rfl)) ?_
    refine W.assign rfl rfl ?_
    refine W.nil ?_
    refine At.thenCode ?_
    refine C.ret ?_
    refine At.ret1 Try.results9 rfl ?_
    exact ⟨rfl, hX14.below⟩

theorem GroupPowers_walk (x a b : Nat) (hx : x < 18446744073709551616) (ha : a < 18446744073709551616) (hb : b < 18446744073709551616) (w : World) :
    Ct Try.prog 10 #[.int .u64 (x : Int), .int .u64 (a : Int), .int .u64 (b : Int)] w (LawOk w) := by
  refine Ct.enter [(0, .int .u64 (x : Int)), (1, .int .u64 (a : Int)), (2, .int .u64 (b : Int))] Try.func10 rfl rfl rfl rfl ?_
  refine C.seq ?_
  refine C.region ?_
  refine W.assign rfl rfl ?_
  refine W.nil ?_
  refine At.thenCode ?_
  refine C.seq ?_
  refine C.region ?_
  refine W.call Try.call23 rfl (Law8.alive_ok _) rfl ?_
  rintro v w' ⟨rfl, rfl⟩
  refine W.assign rfl rfl ?_
  refine W.nil ?_
  refine At.thenCode ?_
  refine C.seq ?_
  refine C.seq ?_
  refine C.region ?_
  refine W.move rfl rfl ?_
  first | refine W.notD rfl rfl ?_ | refine W.notB rfl rfl ?_
  refine W.move rfl rfl ?_
  refine W.wants rfl rfl rfl rfl ?_
  refine W.move rfl rfl ?_
  refine W.wants rfl rfl rfl rfl ?_
  refine W.call Try.call24 rfl (Grp.Right_ok _ _) rfl ?_
  rintro v w' ⟨rfl, rfl⟩
  refine W.wants rfl rfl rfl rfl ?_
  first | refine W.notD rfl rfl ?_ | refine W.notB rfl rfl ?_
  refine W.pickF rfl rfl rfl ?_
  refine W.nil ?_
  refine At.thenCode ?_
  first | refine C.condD rfl (fun c15 => ?_) (fun c15 => ?_) | refine C.cond rfl (fun c15 => ?_) (fun c15 => ?_)
  · refine C.seq ?_
    refine C.region ?_
    refine W.move rfl rfl ?_
    refine W.assign rfl rfl ?_
    refine W.nil ?_
    refine At.thenCode ?_
    refine C.ret ?_
    refine At.thenRet ?_
    refine At.ret1 Try.results10 rfl ?_
    exact ⟨rfl, Below.refl _ _⟩
  · refine C.skip ?_
    refine At.thenCode ?_
    refine C.seq ?_
    refine C.region ?_
    have hR : Rt x := by omega
    refine W.move rfl rfl ?_
    refine W.move rfl rfl ?_
    refine W.call Try.call26 rfl (Grp.Times_ok _ _ (by first | omega | decide) _) rfl ?_
    rintro v w' ⟨rfl, rfl⟩
    refine W.move rfl rfl ?_
    refine W.call Try.call26 rfl (Grp.Times_ok _ _ (by first | omega | decide) _) rfl ?_
    rintro v w' ⟨rfl, rfl⟩
    refine W.move rfl rfl ?_
    refine W.move rfl rfl ?_
    refine W.move rfl rfl ?_
    refine W.call Try.call34 rfl (Modn.MulN_ok _ _ (by first | omega | decide) (by first | omega | decide) _) rfl ?_
    rintro v w' ⟨rfl, rfl⟩
    refine W.call Try.call26 rfl (Times_ok _ _ (by have := Modn.mod_lt_N (a * b); omega) _) rfl ?_
    rintro v w' ⟨rfl, rfl⟩
    refine W.eqlU rfl rfl rfl ?_
    refine W.eqv (bT (times_times hR a b)) ?_
    refine W.move rfl rfl ?_
    refine W.wants rfl rfl rfl rfl ?_
    refine W.move rfl rfl ?_
    refine W.wants rfl rfl rfl rfl ?_
    refine W.move rfl rfl ?_
    refine W.wants rfl rfl rfl rfl ?_
    refine W.call Try.call26 rfl (Grp.Times_ok _ _ (by first | omega | decide) _) rfl ?_
    rintro v w' ⟨rfl, rfl⟩
    refine W.wants rfl rfl rfl rfl ?_
    refine W.move rfl rfl ?_
    refine W.wants rfl rfl rfl rfl ?_
    refine W.move rfl rfl ?_
    refine W.wants rfl rfl rfl rfl ?_
    refine W.call Try.call26 rfl (Grp.Times_ok _ _ (by first | omega | decide) _) rfl ?_
    rintro v w' ⟨rfl, rfl⟩
    refine W.wants rfl rfl rfl rfl ?_
    refine W.litV [u64V (timesV x a), u64V (timesV x b)] E64 Try.underlying33 rfl rfl (u64_oneCell [timesV x a, timesV x b]) rfl rfl rfl ?_
    intro g35 w35 hg35 hX35 ho35 hS35
    refine W.wants rfl rfl rfl rfl ?_
    refine W.call Try.call32 rfl (Product_ok _ _ [timesV x a, timesV x b] _ hS35 (by simp) (fun y hy => ?_)) rfl ?_
    · have h1 := timesV_lt x a
      have h2 := timesV_lt x b
      simp only [List.mem_cons, List.not_mem_nil, or_false] at hy
      omega
    rintro v w' ⟨rfl, rfl⟩
    refine W.wants rfl rfl rfl rfl ?_
    refine W.move rfl rfl ?_
    refine W.wants rfl rfl rfl rfl ?_
    refine W.move rfl rfl ?_
    refine W.wants rfl rfl rfl rfl ?_
    refine W.move rfl rfl ?_
    refine W.wants rfl rfl rfl rfl ?_
    refine W.call Try.call35 rfl (Modn.AddN_ok _ _ (by first | omega | decide) (by first | omega | decide) _) rfl ?_
    rintro v w' ⟨rfl, rfl⟩
    refine W.wants rfl rfl rfl rfl ?_
    refine W.call Try.call26 rfl (Times_ok _ _ (by have := Modn.mod_lt_N (a + b); omega) _) rfl ?_
    rintro v w' ⟨rfl, rfl⟩
    refine W.wants rfl rfl rfl rfl ?_
    refine W.eqlU rfl rfl rfl ?_
    refine W.eqv (bT (prod_times hR a b)) ?_
    refine W.pickT rfl rfl rfl ?_
    refine W.move rfl rfl ?_
    refine W.wants rfl rfl rfl rfl ?_
    refine W.move rfl rfl ?_
    refine W.wants rfl rfl rfl rfl ?_
    refine W.call Try.call26 rfl (Times_ok x 2305843009213693950 (by decide) _) rfl ?_
    rintro v w' ⟨rfl, rfl⟩
    refine W.wants rfl rfl rfl rfl ?_
    refine W.eqlU (n := 1) rfl rfl rfl ?_
    refine W.eqv (bT (by rw [timesV_right hR, fermat (right_mod hR)])) ?_
    refine W.pickT rfl rfl rfl ?_
    refine W.move rfl rfl ?_
    refine W.wants rfl rfl rfl rfl ?_
    refine W.move rfl rfl ?_
    refine W.wants rfl rfl rfl rfl ?_
    refine W.move rfl rfl ?_
    refine W.wants rfl rfl rfl rfl ?_
    refine W.call Try.call26 rfl (Grp.Times_ok _ _ (by first | omega | decide) _) rfl ?_
    rintro v w' ⟨rfl, rfl⟩
    refine W.wants rfl rfl rfl rfl ?_
    refine W.call Try.call24 rfl (Grp.Right_ok _ _) rfl ?_
    rintro v w' ⟨rfl, rfl⟩
    refine W.eqv (bT (by rw [timesV_right hR]; exact powP_right hR a)) ?_
    refine W.pickT rfl rfl rfl ?_
    refine W.assign rfl rfl ?_
    refine W.nil ?_
    refine At.thenCode ?_
    refine C.ret ?_
    refine At.ret1 Try.results10 rfl ?_
    exact ⟨rfl, hX35.below⟩
end Go.Proofs.Ytknpcejlachlmaa.Law8
