/- Package slices' functions that chapter 17 uses. -/
import Derived.Test.YthiijdbiikljpaaWords
import Derived.Test.YthiijdbiikljpaaKe
import Derived.Test.YthiijdbiikljpaaKr
import Derived.Test.YthiijdbiikljpaaKx
namespace Go.Proofs.Ythiijdbiikljpaa.Let
open Go Go.RowKit Go.Proofs.Ythiijdbiikljpaa.KW Go.Proofs.Ythiijdbiikljpaa.Words
set_option linter.unusedVariables false
set_option linter.unusedSimpArgs false
set_option maxRecDepth 100000
/-- What a row of bytes is, taken up to n. -/
theorem ow_take {w : World} {base e c n : Nat} {bo : Option Addr} {xs : List UInt8} (h : Ow w base e (.slice bo xs.length c) xs) (hn : n ≤ xs.length) (h0 : bo = none → c = 0) : ∃ bo', (.slice (if c = 0 then bo else bo.map (·.add (0 * 1))) (n - 0) (c - 0) : Value) = .slice bo' (xs.take n).length c ∧ Ow w base e (.slice bo' (xs.take n).length c) (xs.take n) ∧ (∀ ad, bo' = some ad → ∃ a, bo = some a ∧ ad.block = a.block) := by
  have hl : (xs.take n).length = n := by rw [List.length_take]; omega
  rw [hl]
  rcases h.2 with ⟨h1, h2⟩ | ⟨g, cap, cur, hv, hb, hg, hnc, hcm, hcs, htake⟩
  · injection h1 with h3 h4 h5
    subst h3; subst h5
    have hn0 : n = 0 := by omega
    subst hn0
    refine ⟨none, by simp, ?_, fun ad e => by cases e⟩
    have e : xs.take 0 = [] := rfl
    rw [e]
    exact Ow.nil _ _ _
  · injection hv with h3 h4 h5
    subst h3; subst h5
    refine ⟨some ⟨g, 0, none⟩, ?_, ⟨by rw [List.length_map, hl, Nat.mul_one], .inr ⟨g, c, cur, by rw [hl], hb, hg, by omega, hcm, hcs, ?_⟩⟩, fun ad e => ⟨_, rfl, by obtain rfl := Option.some.inj e; rfl⟩⟩
    · simp [add_mk]
    · rw [hl, Nat.mul_one, List.map_take, ← htake, Nat.mul_one, List.take_take]
      congr 1
      omega
section
variable {P : Program} {N : Nat} {Q : Exit → Act → World → Prop} {l : Env} {w : World} {ops : Array Oper} {rest : List Oper} {d : Tmp} {ty : TypeId} {pos : String} {aft : Array Edge}
/-- x[:k] of a row that is owned. -/
theorem W.sliceO {x oh : Operand} {t e c base k : Nat} {z : Value} {bytes : Nat} {kk : IntKind} {bo : Option Addr} {xs : List UInt8} (hE : Elem P e 1 bytes z) (hT : P.underlying t = some (.slice e)) (hx : ev l x = some (.slice bo xs.length c)) (ho : Ow w base 5 (.slice bo xs.length c) xs)
    (hh : ev l oh = some (.int kk (k : Int))) (hk : k ≤ xs.length) (hN : Nat.blt d N = true)
    (next : ∀ bo', Ow w base 5 (.slice bo' (xs.take k).length c) (xs.take k) → (∀ ad, bo' = some ad → ∃ a, bo = some a ∧ ad.block = a.block) → W P N ops Q rest ((d, .slice bo' (xs.take k).length c) :: l) w) :
    W P N ops Q (⟨some d, .slice t x none (some oh) none, ty, pos, aft, none⟩ :: rest) l w := by
  obtain ⟨i, hi', hz, hsz, hby⟩ := hE.out
  obtain ⟨_, _, he2, hS2, _⟩ := ownsRow_form ho
  injection he2 with e1 e2 e3
  subst e1; subst e3
  have hle := hS2.le
  obtain ⟨bo', hv, ho', hb'⟩ := ow_take ho hk hS2.nil
  refine W.op (v := .slice bo' (xs.take k).length c) (w' := w) rfl rfl hN (fun a ha => ?_) (next bo' ho' hb')
  have b1 : (Instr.sliceBound (.int kk (k : Int)) c (if true then .sliceAcap else .sliceAcap)).run P w = .ok k w := by
    have : (0 : Int) ≤ (k : Int) ∧ (k : Int) ≤ (c : Int) := by omega
    simp [Instr.sliceBound, asIntOf, this]
  have hrun : (Instr.slice t (.slice bo xs.length c) none (some (a.eval oh)) none).run P w = .ok (.slice bo' (xs.take k).length c) w := by
    rw [← hv, ha.ev hh]
    have b2 : ∀ (code : BoundsCode), (Instr.sliceBound (.int kk (k : Int)) c code).run P w = .ok k w := by
      intro code
      have : (0 : Int) ≤ (k : Int) ∧ (k : Int) ≤ (c : Int) := by omega
      simp [Instr.sliceBound, asIntOf, this]
    simp [Instr.slice, run_underlying hT, Instr.sliceBounds, sizeOf, typeInfo, hi', hsz, b2]
  simp only [execOp, Instr.sliceAt, ha.ev hx, Sem.run_bind, Sem.run_pure, Result.andThen_ok, run_underlying hT, Option.map_none, Option.map_some, hrun]
/-- The capacity of a slice. -/
theorem W.capS {x : Operand} {T : TypeId} {ao : Option Addr} {n c e : Nat} (hx : ev l x = some (.slice ao n c)) (hT : P.underlying T = some (.slice e)) (hN : Nat.blt d N = true) (next : W P N ops Q rest ((d, .int .i64 (c : Int)) :: l) w) : W P N ops Q (⟨some d, .call ⟨.builtin .cap, #[x], #[T]⟩, ty, pos, aft, none⟩ :: rest) l w :=
  W.op rfl rfl hN (fun a ha => by
    simp only [execOp, resolve, invoke, builtin, List.map_toArray, List.map_cons, List.map_nil, ha.ev hx, Sem.run_bind, Sem.run_pure, Result.andThen_ok]
    simp [Builtin.cap_, run_underlying hT, goInt]) next
end
theorem cloneB_ok (ao : Option Addr) (c : Nat) (xs : List UInt8) (w : World) (hS : Bs w ao c xs) (hl : xs.length ≤ 1000000000000) :
    Ct Try.prog 37 #[.slice ao xs.length c] w (fun v w' => Ow w' w.heap.size 5 v xs ∧ Ext w w') := by
  refine Ct.enter [(0, .slice ao xs.length c)] Try.func37 rfl rfl rfl rfl ?_
  refine C.seq ?_
  refine C.region ?_
  refine W.assign rfl rfl ?_
  refine W.nil ?_
  refine At.thenCode ?_
  refine C.seq ?_
  refine C.seq ?_
  refine C.region ?_
  refine W.move rfl rfl ?_
  refine W.eqlNil Try.underlying51 rfl rfl rfl ?_
  refine W.nil ?_
  refine At.thenCode ?_
  first | refine C.condD rfl (fun c4 => ?_) (fun c4 => ?_) | refine C.cond rfl (fun c4 => ?_) (fun c4 => ?_)
  · obtain rfl : ao = none := by cases ao with
      | none => rfl
      | some a => cases c4
    have hc0 := hS.nil rfl
    have hle := hS.le
    obtain rfl : xs = [] := List.eq_nil_of_length_eq_zero (by omega)
    refine C.seq ?_
    refine C.region ?_
    refine W.assign rfl rfl ?_
    refine W.nil ?_
    refine At.thenCode ?_
    refine C.ret ?_
    refine At.thenRet ?_
    refine At.ret1 Try.results37 rfl ?_
    first | exact ⟨ho7, hX7⟩ | exact ⟨Ow.nil _ _ _, Ext.refl _⟩
  · refine C.skip ?_
    refine At.thenCode ?_
    refine C.seq ?_
    refine C.region ?_
    refine W.lit0 E8 Try.underlying51 rfl ?_
    intro g5 w5 hg5 hX5 ho5
    refine W.move rfl rfl ?_
    refine W.appendB (xs := []) E8 Try.underlying51 rfl rfl ho5 (hS.ext hX5) (by simp; omega) hX5.size rfl ?_
    rw [List.nil_append]
    intro v7 w7 ho7 hg7 _
    have hX7 : Ext w w7 := hX5.news (Chg.of_grown hg7) (fun k hk => Or.inr ((World.ownsRow.lt ho5 k hk.symm).1))
    refine W.assign rfl rfl ?_
    refine W.nil ?_
    refine At.thenCode ?_
    refine C.ret ?_
    refine At.ret1 Try.results37 rfl ?_
    first | exact ⟨ho7, hX7⟩ | exact ⟨Ow.nil _ _ _, Ext.refl _⟩

theorem Grow_ok (n : Nat) (w : World) (hn : n ≤ 10000000) :
    Ct Try.prog 84 #[.slice none 0 0, .int .i64 (n : Int)] w (fun v w' => Ow w' w.heap.size 5 v [] ∧ Ext w w') := by
  refine Ct.enter [(0, .slice none 0 0), (1, .int .i64 (n : Int))] Try.func84 rfl rfl rfl rfl ?_
  have h0 : Ow w w.heap.size 5 (.slice none 0 0) [] := Ow.nil _ _ _
  refine C.seq ?_
  refine C.region ?_
  refine W.assign rfl rfl ?_
  refine W.nil ?_
  refine At.thenCode ?_
  refine C.seq ?_
  refine C.seq ?_
  refine C.region ?_
  refine W.move rfl rfl ?_
  refine W.lssI rfl rfl rfl ?_
  refine W.nil ?_
  refine At.thenCode ?_
  first | refine C.condD rfl (fun c6 => ?_) (fun c6 => ?_) | refine C.cond rfl (fun c6 => ?_) (fun c6 => ?_)
  · exact absurd c6 (by omega)
  · refine C.skip ?_
    refine At.thenCode ?_
    refine C.seq ?_
    refine C.seq ?_
    refine C.region ?_
    refine W.move rfl rfl ?_
    refine W.move rfl rfl ?_
    refine W.capS rfl Try.underlying51 rfl ?_
    refine W.move rfl rfl ?_
    refine W.lenS rfl Try.underlying51 rfl ?_
    first | refine W.subI rfl rfl (by omega) rfl ?_ | refine W.subW rfl rfl rfl ?_
    first | refine W.subI rfl rfl (by omega) rfl ?_ | refine W.subW rfl rfl rfl ?_
    refine W.assign rfl rfl ?_
    refine W.nil ?_
    refine At.thenCode ?_
    refine C.seq ?_
    refine C.region ?_
    refine W.move rfl rfl ?_
    refine W.gtrI rfl rfl rfl ?_
    refine W.nil ?_
    refine At.thenCode ?_
    first | refine C.condD rfl (fun c16 => ?_) (fun c16 => ?_) | refine C.cond rfl (fun c16 => ?_) (fun c16 => ?_)
    · refine C.region ?_
      refine W.move rfl rfl ?_
      refine W.move rfl rfl ?_
      refine W.capS rfl Try.underlying51 rfl ?_
      refine W.sliceO (xs := []) (k := 0) (kk := .i64) E8 Try.underlying51 rfl h0 rfl (Nat.le_refl _) rfl ?_
      intro bo20 ho20 _
      refine W.move rfl rfl ?_
      refine W.appendN (m := n) E8 Try.underlying51 Try.underlying3 rfl rfl (by omega) ho20 (by simp; omega) (Nat.le_refl _) rfl ?_
      intro v22 w22 ho22 hg22
      have hX22 : Ext w w22 := (Chg.of_grown hg22).mono fun k hk => by
        have := World.ownsRow.lt ho20 k hk.symm
        omega
      rw [List.take_nil, List.nil_append] at ho22
      obtain ⟨a22, c22, rfl, hS22, _⟩ := ownsRow_form ho22
      refine W.move rfl rfl ?_
      refine W.lenS rfl Try.underlying51 rfl ?_
      refine W.sliceO (k := 0) (kk := .i64) E8 Try.underlying51 rfl ho22 rfl (Nat.zero_le _) rfl ?_
      intro bo25 ho25 _
      rw [List.take_zero] at ho25 ⊢
      refine W.assign rfl rfl ?_
      refine W.nil ?_
      refine At.thenCode ?_
      refine C.seq ?_
      refine C.region ?_
      refine W.move rfl rfl ?_
      refine W.assign rfl rfl ?_
      refine W.nil ?_
      refine At.thenCode ?_
      refine C.ret ?_
      refine At.ret1 Try.results84 rfl ?_
      first
      | exact ⟨ho25, hX22⟩
      | exact ⟨h0, Ext.refl _⟩
    · refine C.skip ?_
      refine At.thenCode ?_
      refine C.seq ?_
      refine C.region ?_
      refine W.move rfl rfl ?_
      refine W.assign rfl rfl ?_
      refine W.nil ?_
      refine At.thenCode ?_
      refine C.ret ?_
      refine At.ret1 Try.results84 rfl ?_
      first
      | exact ⟨ho25, hX22⟩
      | exact ⟨h0, Ext.refl _⟩

def catL : List (List UInt8) → List UInt8
  | [] => []
  | x :: r => x ++ catL r
theorem catL_append (a b : List (List UInt8)) : catL (a ++ b) = catL a ++ catL b := by
  induction a with
  | nil => rfl
  | cons x r ih => simp only [List.cons_append, catL, ih, List.append_assoc]
theorem catL_take {l : List (List UInt8)} {i : Nat} (h : i < l.length) : catL (l.take (i + 1)) = catL (l.take i) ++ l[i]'h := by
  rw [List.take_succ_eq_append_getElem h, catL_append]; simp [catL]
theorem catL_le (l : List (List UInt8)) (i : Nat) : (catL (l.take i)).length ≤ (catL l).length := by
  have := congrArg List.length (congrArg catL (List.take_append_drop i l))
  rw [catL_append, List.length_append] at this
  omega
theorem EB : Elem Try.prog 51 1 24 (.slice none 0 0) := Elem.of (by kernel_rfl) rfl rfl
theorem Concat_ok (ao : Option Addr) (c : Nat) (ls : List (List UInt8)) (w : World) (hS : Bss w ao c ls) (hn : ls.length ≤ 1000000) (hl : (catL ls).length ≤ 10000000) :
    Ct Try.prog 76 #[.slice ao ls.length c] w (fun v w' => Ow w' w.heap.size 5 v (catL ls) ∧ Ext w w') := by
  refine Ct.enter [(0, .slice ao ls.length c)] Try.func76 rfl rfl rfl rfl ?_
  refine C.seq ?_
  refine C.region ?_
  refine W.assign rfl rfl ?_
  refine W.nil ?_
  refine At.thenCode ?_
  refine C.seq ?_
  refine C.region ?_
  refine W.assign rfl rfl ?_
  refine W.nil ?_
  refine At.thenCode ?_
  refine C.seq ?_
  refine C.seq ?_
  refine C.region ?_
  refine W.move rfl rfl ?_
  refine W.lenS rfl Try.underlying134 rfl ?_
  refine W.move rfl rfl ?_
  refine W.nil ?_
  refine At.thenCode ?_
  refine C.block ?_
  refine C.loop (X := Nat) (fun x_ => [(0, .slice ao ls.length c), (3, .int .i64 ((catL (ls.take x_)).length : Int)), (9, .slice ao ls.length c), (10, .int .i64 (ls.length : Int)), (11, .int .i64 (x_ : Int))]) (fun x_ w1 => w = w1 ∧ x_ ≤ ls.length) (fun x_ => ls.length - x_) (0) (Sub.cons (rfl) (Sub.cons (rfl) (Sub.cons (rfl) (Sub.cons (rfl) (Sub.cons (rfl) (Sub.nil)))))) ?start1 ?_
  case start1 =>
    show w = _ ∧ (0) ≤ ls.length
    exact ⟨rfl, by omega⟩
  rintro i w1 hI_
  replace hI_ : w = w1 ∧ i ≤ ls.length := hI_
  obtain ⟨rfl, hi⟩ := hI_
  refine C.weaken (l' := [(0, .slice ao ls.length c), (3, .int .i64 ((catL (ls.take i)).length : Int)), (9, .slice ao ls.length c), (10, .int .i64 (ls.length : Int)), (11, .int .i64 (i : Int))]) (Sub.cons (rfl) (Sub.cons (rfl) (Sub.cons (rfl) (Sub.cons (rfl) (Sub.cons (rfl) (Sub.nil)))))) ?_
  refine C.seq ?_
  refine C.region ?_
  refine W.lssI rfl rfl rfl ?_
  refine W.nil ?_
  refine At.thenCode ?_
  refine C.seq ?_
  first | refine C.condD rfl (fun c12 => ?_) (fun c12 => ?_) | refine C.cond rfl (fun c12 => ?_) (fun c12 => ?_)
  · refine C.skip ?_
    refine At.thenCode ?_
    refine C.seq ?_
    refine C.block ?_
    refine C.seq ?_
    refine C.region ?_
    have hlt : i < ls.length := by omega
    obtain ⟨vs, hvs, hrep⟩ := hS
    obtain ⟨u, hu, a, c', rfl, hSx⟩ := hrep i hlt
    have hpn := catL_take hlt
    have hpl := catL_le ls i
    have hpl' := catL_le ls (i + 1)
    rw [hpn, List.length_append] at hpl'
    refine W.idx EB Try.underlying134 Try.underlying51 rfl rfl hvs rfl (by omega) (by rw [Int.toNat_natCast]; exact hu) rfl rfl ?_
    intro p13
    -- read with the address
    refine W.assign rfl rfl ?_
    refine W.nil ?_
    refine At.thenCode ?_
    refine C.seq ?_
    refine C.region ?_
    refine W.move rfl rfl ?_
    refine W.move rfl rfl ?_
    refine W.lenS rfl Try.underlying51 rfl ?_
    first | refine W.addI rfl rfl (by omega) rfl ?_ | refine W.addW rfl rfl rfl ?_
    refine W.assign rfl rfl ?_
    refine W.nil ?_
    refine At.thenCode ?_
    refine C.seq ?_
    refine C.region ?_
    refine W.move rfl rfl ?_
    refine W.lssI rfl rfl rfl ?_
    refine W.nil ?_
    refine At.thenCode ?_
    first | refine C.condD rfl (fun c20 => ?_) (fun c20 => ?_) | refine C.cond rfl (fun c20 => ?_) (fun c20 => ?_)
    · exact absurd c20 (by omega)
    · refine C.skip ?_
      refine At.blockNormal ?_
      refine At.thenCode ?_
      refine C.region ?_
      first | refine W.addI rfl rfl (by omega) rfl ?_ | refine W.addW rfl rfl rfl ?_
      refine W.move rfl rfl ?_
      refine W.nil ?_
      refine At.thenRound (i + 1) (Sub.cons (rfl) (Sub.cons (look_eq rfl (by rw [hpn, List.length_append]; congr 1)) (Sub.cons (rfl) (Sub.cons (rfl) (Sub.cons (look_eq rfl (by rw [show (i : Int) + 1 = ((i + 1 : Nat) : Int) by omega])) (Sub.nil)))))) (show w = _ ∧ (i + 1) ≤ ls.length from ?_) (show ls.length - (i + 1) < ls.length - i from ?_)
      · exact ⟨rfl, by omega⟩
      · omega
  · obtain rfl : i = ls.length := by omega
    rw [List.take_length]
    refine C.exit ?_
    refine At.thenExit ?_
    refine At.thenExit ?_
    refine At.blockSelf ?_
    refine At.thenCode ?_
    refine C.seq ?_
    refine C.region ?_
    refine W.move rfl rfl ?_
    refine W.call Try.call84 rfl (Let.Grow_ok (catL ls).length _ hl) rfl ?_
    rintro v24 w24 ⟨ho24, hX24⟩
    refine W.assign rfl rfl ?_
    refine W.nil ?_
    refine At.thenCode ?_
    refine C.seq ?_
    refine C.seq ?_
    refine C.region ?_
    refine W.move rfl rfl ?_
    refine W.lenS rfl Try.underlying134 rfl ?_
    refine W.move rfl rfl ?_
    refine W.nil ?_
    refine At.thenCode ?_
    refine C.block ?_
    refine C.loop (X := Nat × Value) (fun x_ => [(0, .slice ao ls.length c), (6, x_.2), (25, .slice ao ls.length c), (26, .int .i64 (ls.length : Int)), (27, .int .i64 (x_.1 : Int))]) (fun x_ w2 => Ext w w2 ∧ x_.1 ≤ ls.length ∧ Ow w2 w.heap.size 5 x_.2 (catL (ls.take x_.1))) (fun x_ => ls.length - x_.1) (0, v24) (Sub.cons (rfl) (Sub.cons (rfl) (Sub.cons (rfl) (Sub.cons (rfl) (Sub.cons (rfl) (Sub.nil)))))) ?start2 ?_
    case start2 =>
      show Ext w _ ∧ (0) ≤ ls.length ∧ Ow _ w.heap.size 5 (v24) (catL (ls.take (0)))
      exact ⟨hX24, by omega, ho24⟩
    rintro ⟨i, v⟩ w2 hI_
    replace hI_ : Ext w w2 ∧ i ≤ ls.length ∧ Ow w2 w.heap.size 5 v (catL (ls.take i)) := hI_
    obtain ⟨hX2, hi, hO2⟩ := hI_
    refine C.weaken (l' := [(0, .slice ao ls.length c), (6, v), (25, .slice ao ls.length c), (26, .int .i64 (ls.length : Int)), (27, .int .i64 (i : Int))]) (Sub.cons (rfl) (Sub.cons (rfl) (Sub.cons (rfl) (Sub.cons (rfl) (Sub.cons (rfl) (Sub.nil)))))) ?_
    refine C.seq ?_
    refine C.region ?_
    refine W.lssI rfl rfl rfl ?_
    refine W.nil ?_
    refine At.thenCode ?_
    refine C.seq ?_
    first | refine C.condD rfl (fun c28 => ?_) (fun c28 => ?_) | refine C.cond rfl (fun c28 => ?_) (fun c28 => ?_)
    · refine C.skip ?_
      refine At.thenCode ?_
      refine C.seq ?_
      refine C.block ?_
      refine C.seq ?_
      refine C.region ?_
      have hlt : i < ls.length := by omega
      obtain ⟨vs, hvs, hrep⟩ := hS.ext hX2
      obtain ⟨u, hu, a, c', rfl, hSx⟩ := hrep i hlt
      have hpn := catL_take hlt
      have hpl' := catL_le ls (i + 1)
      rw [hpn, List.length_append] at hpl'
      refine W.idx EB Try.underlying134 Try.underlying51 rfl rfl hvs rfl (by omega) (by rw [Int.toNat_natCast]; exact hu) rfl rfl ?_
      intro p29
      -- read with the address
      refine W.assign rfl rfl ?_
      refine W.nil ?_
      refine At.thenCode ?_
      refine C.region ?_
      refine W.move rfl rfl ?_
      refine W.move rfl rfl ?_
      refine W.appendB (ys := ls[i]'hlt) E8 Try.underlying51 rfl rfl hO2 hSx (by omega) hX2.size rfl ?_
      intro v33 w33 ho33 hg33 _
      have hX33 : Ext w w33 := hX2.news (Chg.of_grown hg33) (fun k hk => Or.inr ((World.ownsRow.lt hO2 k hk.symm).1))
      refine W.assign rfl rfl ?_
      refine W.nil ?_
      refine At.blockNormal ?_
      refine At.thenCode ?_
      refine C.region ?_
      first | refine W.addI rfl rfl (by omega) rfl ?_ | refine W.addW rfl rfl rfl ?_
      refine W.move rfl rfl ?_
      refine W.nil ?_
      refine At.thenRound (i + 1, v33) (Sub.cons (rfl) (Sub.cons (rfl) (Sub.cons (rfl) (Sub.cons (rfl) (Sub.cons (look_eq rfl (by rw [show (i : Int) + 1 = ((i + 1 : Nat) : Int) by omega])) (Sub.nil)))))) (show Ext w _ ∧ (i + 1) ≤ ls.length ∧ Ow _ w.heap.size 5 (v33) (catL (ls.take (i + 1))) from ?_) (show ls.length - (i + 1) < ls.length - i from ?_)
      · exact ⟨hX33, by omega, by rw [hpn]; exact ho33⟩
      · omega
    · obtain rfl : i = ls.length := by omega
      rw [List.take_length] at hO2
      refine C.exit ?_
      refine At.thenExit ?_
      refine At.thenExit ?_
      refine At.blockSelf ?_
      refine At.thenCode ?_
      refine C.seq ?_
      refine C.region ?_
      refine W.move rfl rfl ?_
      refine W.assign rfl rfl ?_
      refine W.nil ?_
      refine At.thenCode ?_
      refine C.ret ?_
      refine At.ret1 Try.results76 rfl ?_
      exact ⟨hO2, hX2⟩
end Go.Proofs.Ythiijdbiikljpaa.Let
