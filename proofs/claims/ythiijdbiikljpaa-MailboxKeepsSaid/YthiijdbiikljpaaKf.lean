/- Function values: literals that capture, and calls of them. -/
import Derived.Test.YthiijdbiikljpaaKl
namespace Go.Proofs.Ythiijdbiikljpaa.KW
open Go Go.RowKit
set_option linter.unusedVariables false
set_option linter.unusedSimpArgs false
section
variable {P : Program} {N : Nat} {Q : Exit → Act → World → Prop} {l : Env} {w : World} {ops : Array Oper} {rest : List Oper} {d : Tmp} {ty : TypeId} {pos : String} {aft : Array Edge}
variable {x y : Operand} {T T' : TypeId}
theorem W.makeFunc {f : FuncId} {xs : List Operand} {caps : List Value} (hx : evs l xs = some caps) (hN : Nat.blt d N = true) (next : W P N ops Q rest ((d, .func (.func f) #[] caps.toArray) :: l) w) :
    W P N ops Q (⟨some d, .makeFunc (.func f) #[] xs.toArray, ty, pos, aft, none⟩ :: rest) l w :=
  W.op rfl rfl hN (fun a ha => by simp [execOp, Instr.makeFunc, ha.evs hx]) next
/-- A call of a function value. -/
theorem W.callV {f : FuncId} {xs : List Operand} {fo : Operand} {tys : Array TypeId} {args caps : List Value} {R : Value → World → Prop} (hc : ∀ args w, (callFunc f args).run P w = .ok (.enter f args) w)
    (hf : ev l fo = some (.func (.func f) #[] caps.toArray)) (hx : evs l xs = some args) (H : Ct P f (args ++ caps).toArray w R) (hN : Nat.blt d N = true) (next : ∀ v w', R v w' → W P N ops Q rest ((d, v) :: l) w') :
    W P N ops Q (⟨some d, .call ⟨.value fo, xs.toArray, tys⟩, ty, pos, aft, none⟩ :: rest) l w :=
  ⟨fun a ha => wpList_plain rfl fun K hK => by
    unfold Oper.wp
    have e : (execOp a.eval ⟨some d, .call ⟨.value fo, xs.toArray, tys⟩, ty, pos, aft, none⟩).run P w = .ok (.enter f (args ++ caps).toArray) w := by
      have e1 : execOp a.eval ⟨some d, .call ⟨.value fo, xs.toArray, tys⟩, ty, pos, aft, none⟩ = (do let q ← Deferred.ofValue (a.eval fo) (xs.toArray.map a.eval); invoke q.target q.args) := rfl
      rw [e1, ha.ev hf]
      simp only [Deferred.ofValue, invoke, Sem.run_bind, Sem.run_pure, Result.andThen_ok]
      rw [hc]
      simp only [List.map_toArray, ha.evs hx, Array.empty_append]
      congr 2
      simp
    rw [e]
    simp only [Oper.upon]
    refine H.out.mono ?_
    rintro e w' ⟨v, rfl, hR⟩
    exact hK _ _ ((next v w' hR).out _ (ha.put (lt_of_blt hN) v))⟩
section
variable {fn : Func} {R : Value → World → Prop}
theorem run_results3 {P : Program} {w : World} {r s t : Tmp} (hr : fn.results = #[.tmp r, .tmp s, .tmp t]) (tmps : Array Value) {v u x : Value} (hv : tmps[r]? = some v) (hu : tmps[s]? = some u) (hx : tmps[t]? = some x) : (results fn tmps).run P w = .ok (.tuple #[v, u, x]) w := by
  simp only [results, hr]
  simp [Sem.run_bind, Result.andThen, hv, hu, hx]
theorem run_results_cell_tmp {P : Program} {w : World} {u p : Tmp} {t : TypeId} (hr : fn.results = #[.cell p t, .tmp u]) (tmps : Array Value) {ad : Addr} {v0 v : Value} (hu : tmps[u]? = some v0) (hp : tmps[p]? = some (.pointer (some ad))) (hl : (loadVar t ad).run P w = .ok v w) : (results fn tmps).run P w = .ok (.tuple #[v, v0]) w := by
  simp only [results, hr]
  simp [Sem.run_bind, Result.andThen, hu, hp, asAddr, hl]
/-- A result in a cell, and one that is not. -/
theorem At.retCT {u p : Tmp} {t : TypeId} {ad : Addr} {v0 : Value} {cs : List Value} {dd : TypeDesc} (hr : fn.results = #[.cell p t, .tmp u]) (hu : look l u = some v0) (hp : look l p = some (.pointer (some ad))) (hc : Cells w ad cs) (hT : P.underlying t = some dd) (hd : dd.isRow = true) (hi : (P.info? t).map (·.size) = some cs.length) (hR : R (.tuple #[.agg cs.toArray, v0]) w) : At P N (Ret P fn R) .ret l w :=
  ⟨fun a ha => bodyPost_ret (run_results_cell_tmp hr a.tmps (ha.mem _ _ hu) (ha.mem _ _ hp) (run_loadRow w ad t cs dd hc hT hd hi)) ha.defers ⟨_, rfl, hR⟩⟩
theorem At.ret3 {r s t : Tmp} {v u x : Value} (hr : fn.results = #[.tmp r, .tmp s, .tmp t]) (hv : look l r = some v) (hu : look l s = some u) (hx : look l t = some x) (hR : R (.tuple #[v, u, x]) w) : At P N (Ret P fn R) .ret l w :=
  ⟨fun a ha => bodyPost_ret (run_results3 hr a.tmps (ha.mem _ _ hv) (ha.mem _ _ hu) (ha.mem _ _ hx)) ha.defers ⟨_, rfl, hR⟩⟩
end
end
/-- A function value that, called with an index, tells the number of a list there, and leaves all as it is. -/
structure FvNat (P : Program) (fv : Value) (L : List Nat) (w : World) : Prop where
  out : ∃ f caps, fv = .func (.func f) #[] caps ∧ (∀ args w, (callFunc f args).run P w = .ok (.enter f args) w) ∧ ∀ i (h : i < L.length), Ct P f ([Value.int .i64 (i : Int)] ++ caps.toList).toArray w (fun v w' => v = .int .i64 ((L[i]'h : Nat) : Int) ∧ w = w')
end Go.Proofs.Ythiijdbiikljpaa.KW
