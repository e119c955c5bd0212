/- A small library of this project's own: a frame told as a list of (slot, value), one lemma for each kind of operation, each kind of code and each way out; used by the walks of this seat. Numbers: what each operation on integers comes to, told by plain functions on Nat (the unsigned kinds) and Int, and the walk's lemma for each. Memory: what has changed between two worlds, slices that read as lists, rows that a call owns, whole blocks; and the walk's lemmas on them. Strings and bytes: conversions and comparisons. Plain facts on the unsigned numbers' functions: masks, shifts, products of 128 bits, and numbers modulo P and N. The walks of package words and of the reference's functions of chapter 1, and what they compute as plain functions on lists of bytes. -/
import Derived.WalkKit
import Derived.Laws.MakeOwn
import Derived.Laws.CopyOwn
import Derived.Laws.Bits64
import Derived.Deep.WholeRow
import Derived.Deep.MidRow
import Derived.Deep.LoopGhost
import Derived.Laws.OwnMore
import Derived.Deep.Draws
import Derived.Laws.BytesString
import Derived.Laws.Strings
import Derived.Lib.Mul64
import Derived.Test.YthiijdbiikljpaaGreatProg
namespace Go.Proofs.YthiijdbiikljpaaGreat.KW
open Go Go.RowKit
set_option linter.unusedVariables false
set_option linter.unusedSimpArgs false
abbrev Env := List (Nat × Value)
def look : Env → Nat → Option Value
  | [], _ => none
  | (k, v) :: r, t => bif Nat.beq k t then some v else look r t
theorem look_self (d : Nat) (v : Value) (l : Env) : look ((d, v) :: l) d = some v := by simp [look]
theorem look_ne {d t : Nat} (h : d ≠ t) (v : Value) (l : Env) : look ((d, v) :: l) t = look l t := by
 have : Nat.beq d t = false := by
   cases hb : Nat.beq d t with
   | false => rfl
   | true => exact absurd (Nat.eq_of_beq_eq_true hb) h
 simp [look, this]
theorem look_eq {l : Env} {t : Nat} {v v' : Value} (h : look l t = some v) (e : v = v') : look l t = some v' := by subst e; exact h
structure Has (N : Nat) (l : Env) (a : Act) : Prop where
  defers : a.defers = []
  size : a.tmps.size = N
  mem : ∀ t v, look l t = some v → a.tmps[t]? = some v
def Sub (l' l : Env) : Prop := ∀ t v, look l' t = some v → look l t = some v
theorem Sub.nil {l : Env} : Sub [] l := fun t v h => by simp [look] at h
theorem Sub.cons {l r : Env} {t : Nat} {v : Value} (h : look l t = some v) (s : Sub r l) : Sub ((t, v) :: r) l := by
 intro t' v' h'
 by_cases e : t = t'
 subst e; rw [look_self] at h'; obtain rfl := Option.some.inj h'; exact h
 rw [look_ne e] at h'; exact s t' v' h'
theorem sc {l r : Env} {t : Nat} {v : Value} (h : look l t = some v) (s : Sub r l) : Sub ((t, v) :: r) l := Sub.cons h s
theorem Sub.refl (l : Env) : Sub l l := fun _ _ h => h
theorem Has.sub {N : Nat} {l l' : Env} {a : Act} (h : Has N l a) (s : Sub l' l) : Has N l' a := ⟨h.defers, h.size, fun t v hv => h.mem t v (s t v hv)⟩
theorem Has.put {N : Nat} {l : Env} {a : Act} (h : Has N l a) {d : Nat} (hd : d < N) (v : Value) : Has N ((d, v) :: l) (a.put (some d) v) := by
 refine ⟨h.defers, by simp [Act.put, h.size], fun t u ht => ?_⟩
 simp only [Act.put, Array.getElem?_setIfInBounds]
 by_cases e : d = t
 subst e
 rw [look_self] at ht
 simp [h.size, hd, ht]
 rw [if_neg e]
 rw [look_ne e] at ht
 exact h.mem t u ht
def ev (l : Env) : Operand → Option Value
  | .tmp t => look l t
  | .const v => some v
  | .global g => some (.pointer (some ⟨g, 0, none⟩))
  | .func f => some (.func (.func f) #[] #[])
theorem Has.ev {N : Nat} {l : Env} {a : Act} (h : Has N l a) {x : Operand} {v : Value} (hx : ev l x = some v) : a.eval x = v := by
 cases x with
 | tmp t => have := h.mem t v hx; simp [Act.eval, this]
 | const u => exact Option.some.inj hx
 | global g => exact Option.some.inj hx
 | func f => exact Option.some.inj hx
def evs (l : Env) : List Operand → Option (List Value)
  | [] => some []
  | x :: r => match KW.ev l x, evs l r with
    | some v, some vs => some (v :: vs)
    | _, _ => none
theorem Has.evs {N : Nat} {l : Env} {a : Act} (h : Has N l a) : ∀ {xs : List Operand} {vs : List Value}, evs l xs = some vs → xs.map a.eval = vs := by
 intro xs
 induction xs with
 | nil => intro vs hv; simp [KW.evs] at hv; simp [hv]
 | cons x r ih =>
   intro vs hv
   unfold KW.evs at hv
   split at hv
   rename_i v vs' h1 h2
   obtain rfl := Option.some.inj hv
   simp [h.ev h1, ih h2]
   cases hv
def envOf : Nat → List Value → Env
  | _, [] => []
  | k, v :: r => (k, v) :: envOf (k + 1) r
theorem look_envOf : ∀ (vs : List Value) (k t : Nat) (v : Value), look (envOf k vs) t = some v → k ≤ t ∧ vs[t - k]? = some v := by
 intro vs
 induction vs with
 | nil => intro k t v h; simp [envOf, look] at h
 | cons u r ih =>
   intro k t v h
   by_cases e : k = t
   subst e
   rw [envOf, look_self] at h
   simp [h]
   rw [envOf, look_ne e] at h
   obtain ⟨h1, h2⟩ := ih (k + 1) t v h
   refine ⟨by omega, ?_⟩
   rw [show t - k = (t - (k + 1)) + 1 by omega]
   simpa using h2
structure W (P : Program) (N : Nat) (ops : Array Oper) (Q : Exit → Act → World → Prop) (os : List Oper) (l : Env) (w : World) : Prop where
  out : ∀ a, Has N l a → wpList P ops Q os a w
structure C (P : Program) (N : Nat) (c : Code) (Q : Exit → Act → World → Prop) (l : Env) (w : World) : Prop where
  out : ∀ a, Has N l a → c.wp P Q a w
structure At (P : Program) (N : Nat) (Q : Exit → Act → World → Prop) (e : Exit) (l : Env) (w : World) : Prop where
  out : ∀ a, Has N l a → Q e a w
structure Ct (P : Program) (f : FuncId) (args : Array Value) (w : World) (R : Value → World → Prop) : Prop where
  out : Calls P f args w (fun e w' => ∃ v, e = .returned v ∧ R v w')
abbrev LawOk (w : World) : Value → World → Prop := fun v w' => v = .bool true ∧ Below w.heap.size w w'
theorem Ct.mono {P : Program} {f : FuncId} {args : Array Value} {w : World} {R R' : Value → World → Prop} (h : Ct P f args w R) (hr : ∀ v w', R v w' → R' v w') : Ct P f args w R' :=
 ⟨h.out.mono fun e w' ⟨v, he, hv⟩ => ⟨v, he, hr v w' hv⟩⟩
section
variable {P : Program} {N : Nat} {Q : Exit → Act → World → Prop} {l : Env} {w : World}
theorem Ct.enter {f : FuncId} {fn : Func} {c : Code} {args : List Value} {R : Value → World → Prop} (l : Env) (hf : P.funcs[f]? = some fn) (hb : fn.body = some c) (hn : fn.ntmps = N) (hs : Nat.ble args.length N = true)
   (he : envOf 0 args = l) (h : C P N c (bodyPost P fn (fun e w' => ∃ v, e = .returned v ∧ R v w')) l w) : Ct P f args.toArray w R := by
 subst he
 have hs := Nat.le_of_ble_eq_true hs
 refine ⟨calls_of_wp hf hb (h.out _ ⟨rfl, ?_, ?_⟩)⟩
 simp [hn]; omega
 intro t v ht
 obtain ⟨_, h2⟩ := look_envOf args 0 t v ht
 simp only [Nat.sub_zero] at h2
 have hlt : t < args.length := (List.getElem?_eq_some_iff.1 h2).1
 show (args.toArray ++ _)[t]? = some v
 rw [Array.getElem?_append, if_pos (by simpa using hlt)]
 simpa using h2
theorem C.weaken {c : Code} {l' : Env} (s : Sub l' l) (h : C P N c Q l' w) : C P N c Q l w := ⟨fun a ha => h.out a (ha.sub s)⟩
theorem C.seq {x y : Code} (h : C P N x (Exit.then (y.wp P Q) Q) l w) : C P N (.seq x y) Q l w := ⟨fun a ha => wp_seq (h.out a ha)⟩
theorem C.region {id : Nat} {os : List Oper} (h : W P N os.toArray Q os l w) : C P N (.region id os.toArray false) Q l w := ⟨fun a ha => wp_region_lit (h.out a ha)⟩
theorem C.cond {c : Operand} {x y : Code} {t : Bool} (hc : ev l c = some (.bool t)) (ht : t = true → C P N x Q l w) (hf : t = false → C P N y Q l w) : C P N (.cond c x y) Q l w :=
 ⟨fun a ha => wp_cond_split (ha.ev hc) (fun h => (ht h).out a ha) (fun h => (hf h).out a ha)⟩
theorem C.condD {c : Operand} {x y : Code} {p : Prop} [Decidable p] (hc : ev l c = some (.bool (decide p))) (ht : p → C P N x Q l w) (hf : ¬ p → C P N y Q l w) : C P N (.cond c x y) Q l w :=
 C.cond hc (fun h => ht (of_decide_eq_true h)) (fun h => hf (of_decide_eq_false h))
theorem C.condT {c : Operand} {x y : Code} (hc : ev l c = some (.bool true)) (ht : C P N x Q l w) : C P N (.cond c x y) Q l w :=
 C.cond hc (fun _ => ht) (fun h => by cases h)
theorem C.condF {c : Operand} {x y : Code} (hc : ev l c = some (.bool false)) (hf : C P N y Q l w) : C P N (.cond c x y) Q l w :=
 C.cond hc (fun h => by cases h) (fun _ => hf)
theorem C.block {id : Nat} {c : Code} (h : C P N c (Exit.inBlock id Q) l w) : C P N (.block id c) Q l w := ⟨fun a ha => wp_block (h.out a ha)⟩
theorem C.skip (h : At P N Q .normal l w) : C P N .skip Q l w := ⟨fun a ha => wp_skip (h.out a ha)⟩
theorem C.exit {id : Nat} (h : At P N Q (.exit id) l w) : C P N (.exit id) Q l w := ⟨fun a ha => wp_exit (h.out a ha)⟩
theorem C.ret (h : At P N Q .ret l w) : C P N .ret Q l w := ⟨fun a ha => wp_ret (h.out a ha)⟩
def Round {X : Type} (N : Nat) (L : X → Env) (I : X → World → Prop) (μ : X → Nat) (x : X) : Act → World → Prop :=
  fun a w => ∃ x', Has N (L x') a ∧ I x' w ∧ μ x' < μ x
theorem C.loop {c : Code} {X : Type} (L : X → Env) (I : X → World → Prop) (μ : X → Nat) (x : X) (hl : Sub (L x) l) (h0 : I x w)
   (round : ∀ x w, I x w → C P N c (Exit.then (Round N L I μ x) Q) (L x) w) : C P N (.loop c) Q l w := by
 constructor
 intro a ha
 refine wp_loop_ghost (fun n a w => ∃ x, μ x = n ∧ Has N (L x) a ∧ I x w) (μ x) ⟨x, rfl, ha.sub hl, h0⟩ ?_
 rintro n a w ⟨x, rfl, hA, hI⟩
 refine wp_mono ((round x w hI).out a hA) ?_
 intro e a' w' hq
 cases e with
 | normal => obtain ⟨x', h1, h2, h3⟩ := hq; exact ⟨μ x', h3, x', rfl, h1, h2⟩
 | exit id => exact hq
 | goto l => exact hq
 | ret => exact hq
 | panic ch => exact hq
 | outgrown => exact hq
def Mid {X : Type} (N : Nat) (L : X → Env) (I : X → World → Prop) : Act → World → Prop := fun a w => ∃ x, Has N (L x) a ∧ I x w
theorem C.seqMid {x y : Code} {X : Type} (L : X → Env) (I : X → World → Prop) (hx : C P N x (Exit.then (Mid N L I) Q) l w) (hy : ∀ z w', I z w' → C P N y Q (L z) w') : C P N (.seq x y) Q l w := by
 refine C.seq ⟨fun a ha => wp_mono (hx.out a ha) ?_⟩
 intro e a w' h
 cases e with
 | normal => obtain ⟨z, h1, h2⟩ := h; exact (hy z w' h2).out a h1
 | exit id => exact h
 | goto l => exact h
 | ret => exact h
 | panic ch => exact h
 | outgrown => exact h
theorem C.mid {x y : Code} {X : Type} (L : X → Env) (I : X → World → Prop) (hx : C P N x (Exit.then (Mid N L I) Q) l w) (hy : ∀ z w', I z w' → C P N y Q (L z) w') : C P N x (Exit.then (y.wp P Q) Q) l w := by
 refine ⟨fun a ha => wp_mono (hx.out a ha) ?_⟩
 intro e a w' h
 cases e with
 | normal => obtain ⟨z, h1, h2⟩ := h; exact (hy z w' h2).out a h1
 | exit id => exact h
 | goto l => exact h
 | ret => exact h
 | panic ch => exact h
 | outgrown => exact h
theorem At.thenMid {X : Type} {L : X → Env} {I : X → World → Prop} (x : X) (s : Sub (L x) l) (hI : I x w) : At P N (Exit.then (Mid N L I) Q) .normal l w := ⟨fun a ha => ⟨x, ha.sub s, hI⟩⟩
theorem At.thenCode {y : Code} {Q' : Exit → Act → World → Prop} (h : C P N y Q l w) : At P N (Exit.then (y.wp P Q) Q') .normal l w := ⟨fun a ha => h.out a ha⟩
theorem At.thenRound {X : Type} {L : X → Env} {I : X → World → Prop} {μ : X → Nat} {x : X} (x' : X) (s : Sub (L x') l) (hI : I x' w) (hm : μ x' < μ x) : At P N (Exit.then (Round N L I μ x) Q) .normal l w :=
 ⟨fun a ha => ⟨x', ha.sub s, hI, hm⟩⟩
theorem At.thenExit {K : Act → World → Prop} {i : Nat} (h : At P N Q (.exit i) l w) : At P N (Exit.then K Q) (.exit i) l w := ⟨fun a ha => h.out a ha⟩
theorem At.thenRet {K : Act → World → Prop} (h : At P N Q .ret l w) : At P N (Exit.then K Q) .ret l w := ⟨fun a ha => h.out a ha⟩
theorem At.blockSelf {i : Nat} (h : At P N Q .normal l w) : At P N (Exit.inBlock i Q) (.exit i) l w := ⟨fun a ha => by simp only [Exit.inBlock, if_true]; exact h.out a ha⟩
theorem At.blockOther {i j : Nat} (hne : Nat.beq j i = false) (h : At P N Q (.exit j) l w) : At P N (Exit.inBlock i Q) (.exit j) l w :=
 ⟨fun a ha => by simp only [Exit.inBlock]; rw [if_neg (by intro e; subst e; simp at hne)]; exact h.out a ha⟩
theorem At.blockNormal {i : Nat} (h : At P N Q .normal l w) : At P N (Exit.inBlock i Q) .normal l w := ⟨fun a ha => h.out a ha⟩
theorem At.blockRet {i : Nat} (h : At P N Q .ret l w) : At P N (Exit.inBlock i Q) .ret l w := ⟨fun a ha => h.out a ha⟩
abbrev Ret (P : Program) (fn : Func) (R : Value → World → Prop) : Exit → Act → World → Prop := bodyPost P fn (fun e w' => ∃ v, e = .returned v ∧ R v w')
section
variable {fn : Func} {R : Value → World → Prop}
theorem At.ret0 (hr : fn.results = #[]) (hR : R (.tuple #[]) w) : At P N (Ret P fn R) .ret l w :=
 ⟨fun a ha => bodyPost_ret (results_none hr a.tmps P w) ha.defers ⟨_, rfl, hR⟩⟩
theorem At.end0 (hr : fn.results = #[]) (hR : R (.tuple #[]) w) : At P N (Ret P fn R) .normal l w :=
 ⟨fun a ha => bodyPost_end (results_none hr a.tmps P w) ha.defers ⟨_, rfl, hR⟩⟩
theorem At.ret1 {r : Tmp} {v : Value} (hr : fn.results = #[.tmp r]) (hv : look l r = some v) (hR : R v w) : At P N (Ret P fn R) .ret l w :=
 ⟨fun a ha => bodyPost_ret (v := v) (by rw [results_tmp hr]; simp [ha.mem _ _ hv]) ha.defers ⟨_, rfl, hR⟩⟩
theorem At.ret2 {r s : Tmp} {v u : Value} (hr : fn.results = #[.tmp r, .tmp s]) (hv : look l r = some v) (hu : look l s = some u) (hR : R (.tuple #[v, u]) w) : At P N (Ret P fn R) .ret l w :=
 ⟨fun a ha => bodyPost_ret (v := .tuple #[v, u]) (by rw [results_tmp2 hr]; simp [ha.mem _ _ hv, ha.mem _ _ hu]) ha.defers ⟨_, rfl, hR⟩⟩
end
section
variable {ops : Array Oper} {rest : List Oper} {d : Tmp} {ty : TypeId} {pos : String} {aft : Array Edge}
theorem lt_of_blt {d N : Nat} (h : Nat.blt d N = true) : d < N := by
 have : d + 1 ≤ N := by simpa [Nat.blt] using h
 omega
theorem W.nil (h : At P N Q .normal l w) : W P N ops Q [] l w := ⟨fun a ha => h.out a ha⟩
theorem W.weaken {os : List Oper} {l' : Env} (s : Sub l' l) (h : W P N ops Q os l' w) : W P N ops Q os l w := ⟨fun a ha => h.out a (ha.sub s)⟩
theorem W.op {o : Oper} {v : Value} {w' : World} (hg : o.guard = none) (hd : o.dst = some d) (hN : Nat.blt d N = true) (hrun : ∀ a, Has N l a → (execOp a.eval o).run P w = .ok (.value v) w')
   (next : W P N ops Q rest ((d, v) :: l) w') : W P N ops Q (o :: rest) l w :=
 ⟨fun a ha => wpList_plain hg fun K hK => by
   unfold Oper.wp
   rw [hrun a ha]
   simp only [Oper.upon, hd]
   exact hK _ _ (next.out _ (ha.put (lt_of_blt hN) v))⟩
theorem W.opSkip {o : Oper} {w' : World} (hg : o.guard = none) (hd : o.dst = none) (hrun : ∀ a, Has N l a → (execOp a.eval o).run P w = .ok .skip w')
   (next : W P N ops Q rest l w') : W P N ops Q (o :: rest) l w :=
 ⟨fun a ha => wpList_plain hg fun K hK => by
   unfold Oper.wp
   rw [hrun a ha]
   simp only [Oper.upon, hd, Act.put]
   exact hK _ _ (next.out _ ha)⟩
theorem W.eqv {os : List Oper} {v v' : Value} (h : v = v') (next : W P N ops Q os ((d, v') :: l) w) : W P N ops Q os ((d, v) :: l) w := by subst h; exact next
theorem W.move {x : Operand} {v : Value} (hx : ev l x = some v) (hN : Nat.blt d N = true) (next : W P N ops Q rest ((d, v) :: l) w) : W P N ops Q (⟨some d, .move x, ty, pos, aft, none⟩ :: rest) l w :=
 W.op rfl rfl hN (fun a ha => by simp [execOp, ha.ev hx]) next
theorem W.assign {x : Operand} {v : Value} (hx : ev l x = some v) (hN : Nat.blt d N = true) (next : W P N ops Q rest ((d, v) :: l) w) : W P N ops Q (⟨some d, .assign x, ty, pos, aft, none⟩ :: rest) l w :=
 W.op rfl rfl hN (fun a ha => by simp [execOp, ha.ev hx]) next
theorem W.pickT {c x y : Operand} {u : Value} (hc : ev l c = some (.bool true)) (hx : ev l x = some u) (hN : Nat.blt d N = true) (next : W P N ops Q rest ((d, u) :: l) w) : W P N ops Q (⟨some d, .pick c x y, ty, pos, aft, none⟩ :: rest) l w :=
 W.op rfl rfl hN (fun a ha => by simp [execOp, ha.ev hc, ha.ev hx, asBool]) next
theorem W.pickF {c x y : Operand} {u : Value} (hc : ev l c = some (.bool false)) (hy : ev l y = some u) (hN : Nat.blt d N = true) (next : W P N ops Q rest ((d, u) :: l) w) : W P N ops Q (⟨some d, .pick c x y, ty, pos, aft, none⟩ :: rest) l w :=
 W.op rfl rfl hN (fun a ha => by simp [execOp, ha.ev hc, ha.ev hy, asBool]) next
theorem bT {p : Prop} [Decidable p] (h : p) : Value.bool (decide p) = .bool true := by rw [decide_eq_true h]
theorem bF {p : Prop} [Decidable p] (h : ¬ p) : Value.bool (decide p) = .bool false := by rw [decide_eq_false h]
theorem W.splitD {os : List Oper} {p : Prop} [Decidable p] (ht : p → W P N ops Q os ((d, .bool true) :: l) w) (hf : ¬ p → W P N ops Q os ((d, .bool false) :: l) w) : W P N ops Q os ((d, .bool (decide p)) :: l) w := by
 by_cases h : p
 rw [decide_eq_true h]; exact ht h
 rw [decide_eq_false h]; exact hf h
theorem W.splitB {os : List Oper} {b : Bool} (ht : b = true → W P N ops Q os ((d, .bool true) :: l) w) (hf : b = false → W P N ops Q os ((d, .bool false) :: l) w) : W P N ops Q os ((d, .bool b) :: l) w := by
 cases b with
 | true => exact ht rfl
 | false => exact hf rfl
theorem W.nilCheck {x : Operand} {ad : Addr} (hx : ev l x = some (.pointer (some ad))) (hN : Nat.blt d N = true) (next : W P N ops Q rest ((d, .pointer (some ad)) :: l) w) : W P N ops Q (⟨some d, .nilCheck x, ty, pos, aft, none⟩ :: rest) l w :=
 W.op rfl rfl hN (fun a ha => by simp [execOp, ha.ev hx]) next
theorem W.extract {x : Operand} {vs : Array Value} {i : Nat} {v : Value} (hx : ev l x = some (.tuple vs)) (hi : vs[i]? = some v) (hN : Nat.blt d N = true) (next : W P N ops Q rest ((d, v) :: l) w) : W P N ops Q (⟨some d, .extract x i, ty, pos, aft, none⟩ :: rest) l w :=
 W.op rfl rfl hN (fun a ha => by simp [execOp, ha.ev hx, Instr.extract, hi]) next
theorem W.call {f : FuncId} {xs : List Operand} {tys : Array TypeId} {args : List Value} {R : Value → World → Prop} (hc : ∀ args w, (callFunc f args).run P w = .ok (.enter f args) w)
   (hx : evs l xs = some args) (H : Ct P f args.toArray w R) (hN : Nat.blt d N = true) (next : ∀ v w', R v w' → W P N ops Q rest ((d, v) :: l) w') : W P N ops Q (⟨some d, .call ⟨.value (.func f), xs.toArray, tys⟩, ty, pos, aft, none⟩ :: rest) l w :=
 ⟨fun a ha => wpList_plain rfl fun K hK => by
   unfold Oper.wp
   have e : (execOp a.eval ⟨some d, .call ⟨.value (.func f), xs.toArray, tys⟩, ty, pos, aft, none⟩) = callFunc f (#[] ++ xs.toArray.map a.eval ++ #[]) := rfl
   rw [e, hc]
   simp only [Oper.upon, Array.empty_append, Array.append_empty, List.map_toArray, ha.evs hx]
   refine H.out.mono ?_
   rintro e w' ⟨v, rfl, hR⟩
   exact hK _ _ ((next v w' hR).out _ (ha.put (lt_of_blt hN) v))⟩
theorem W.wants {o : Oper} {j : Nat} {b : Bool} {oj : Oper} {t : Tmp} (hg : o.guard = some (j, b)) (hj : ops[j]? = some oj) (hd : oj.dst = some t) (hv : look l t = some (.bool b))
   (h : W P N ops Q ({ o with guard := none } :: rest) l w) : W P N ops Q (o :: rest) l w := by
 constructor
 intro a ha
 have h' := h.out a ha
 have hw : Region.wanted o (yielded ops a.tmps) = true := by
   simp [Region.wanted, hg, yielded, hj, hd, ha.mem _ _ hv]
 unfold wpList at h' ⊢
 rw [if_pos hw]
 rw [if_pos (by simp [Region.wanted])] at h'
 exact h'
theorem W.skips {o : Oper} {j : Nat} {b : Bool} {oj : Oper} {t : Tmp} (hg : o.guard = some (j, b)) (hj : ops[j]? = some oj) (hd : oj.dst = some t) (hv : look l t = some (.bool (!b))) (hdst : o.dst = some d) (hN : Nat.blt d N = true)
   (h : W P N ops Q rest ((d, undef) :: l) w) : W P N ops Q (o :: rest) l w := by
 constructor
 intro a ha
 have hw : Region.wanted o (yielded ops a.tmps) = false := by
   simp [Region.wanted, hg, yielded, hj, hd, ha.mem _ _ hv]
 unfold wpList
 rw [if_neg (by simp [hw]), hdst]
 exact h.out _ (ha.put (lt_of_blt hN) undef)
end
end
def modOf : IntKind → Nat
  | .u8 => 256
  | .u16 => 65536
  | .u32 => 4294967296
  | .u64 => 18446744073709551616
  | _ => 0
theorem pow_bits {k : IntKind} {M : Nat} (hk : modOf k = M) (hM : Nat.blt 0 M = true) : 2 ^ k.bits = M ∧ k.signed = false := by
 subst hk
 cases k <;> first | (exact ⟨rfl, rfl⟩) | (simp [modOf] at hM)
theorem wrap_u {k : IntKind} {M : Nat} (hk : modOf k = M) (hM : Nat.blt 0 M = true) (n : Int) : k.wrap n = n % (M : Int) := by
 obtain ⟨h1, h2⟩ := pow_bits hk hM
 have h3 : ((2 : Int) ^ k.bits) = (M : Int) := by rw [← h1]; simp
 simp only [IntKind.wrap, h2, Bool.false_and, h3]
 simp
theorem wrap_un {k : IntKind} {M : Nat} (hk : modOf k = M) (hM : Nat.blt 0 M = true) (n : Nat) : k.wrap (n : Int) = ((n % M : Nat) : Int) := by
 rw [wrap_u hk hM]; simp
def addM (M m n : Nat) : Nat := (m + n) % M
def subM (M m n : Nat) : Nat := (m + (M - n % M)) % M
def mulM (M m n : Nat) : Nat := (m * n) % M
def landM (M m n : Nat) : Nat := (m &&& n) % M
def iorM (M m n : Nat) : Nat := (m ||| n) % M
def xorM (M m n : Nat) : Nat := (m ^^^ n) % M
def notM (M m : Nat) : Nat := ((M - 1) ^^^ m) % M
def shlM (M B m s : Nat) : Nat := (m * 2 ^ (min s B)) % M
def shrM (B m s : Nat) : Nat := m / 2 ^ (min s B)
def quoM (M m n : Nat) : Nat := (m / n) % M
def iu (M : Nat) (i : Int) : Nat := (i % (M : Int)).toNat
theorem wrap_sub {k : IntKind} {M : Nat} (hk : modOf k = M) (hM : Nat.blt 0 M = true) (m n : Nat) : k.wrap ((m : Int) - (n : Int)) = ((subM M m n : Nat) : Int) := by
 have hM0 : 0 < M := lt_of_blt hM
 rw [wrap_u hk hM, subM]
 have h1 : n % M ≤ M := Nat.le_of_lt (Nat.mod_lt _ hM0)
 have h2 : ((m + (M - n % M) : Nat) : Int) = (m : Int) + ((M : Int) - ((n % M : Nat) : Int)) := by omega
 rw [Int.natCast_emod, h2, Int.natCast_emod]
 rw [show (m : Int) + ((M : Int) - (n : Int) % (M : Int)) = ((m : Int) - (n : Int) % (M : Int)) + (M : Int) by omega]
 rw [Int.add_emod_right, Int.sub_emod_emod]
theorem wrap_iu {k : IntKind} {M : Nat} (hk : modOf k = M) (hM : Nat.blt 0 M = true) (i : Int) : k.wrap i = ((iu M i : Nat) : Int) := by
 have hM0 : 0 < M := lt_of_blt hM
 rw [wrap_u hk hM, iu, Int.toNat_of_nonneg (Int.emod_nonneg _ (by omega))]
theorem i64_in' (n : Int) (h : -9223372036854775808 ≤ n ∧ n ≤ 9223372036854775807) : IntKind.i64.wrap n = n := by
 have h2 : ((2 : Int) ^ IntKind.i64.bits) = 18446744073709551616 := by decide
 have h3 : ((2 : Int) ^ (IntKind.i64.bits - 1)) = 9223372036854775808 := by decide
 simp only [IntKind.wrap, h2, h3, show IntKind.i64.signed = true from rfl, Bool.true_and]
 split
 rename_i hc; simp at hc; omega
 rename_i hc; simp at hc; omega
section
variable {P : Program} {N : Nat} {Q : Exit → Act → World → Prop} {l : Env} {w : World} {ops : Array Oper} {rest : List Oper} {d : Tmp} {ty : TypeId} {pos : String} {aft : Array Edge}
variable {x y : Operand} {k : IntKind} {M : Nat} {T T' : TypeId}
theorem W.bin {op : BinOp} {k k' : IntKind} {m n : Int} {r : Value} (hx : ev l x = some (.int k m)) (hy : ev l y = some (.int k' n)) (hr : (binOp op T (.int k m) (.int k' n)).run P w = .ok r w) (hN : Nat.blt d N = true)
   (next : W P N ops Q rest ((d, r) :: l) w) : W P N ops Q (⟨some d, .binOp op T x y T', ty, pos, aft, none⟩ :: rest) l w :=
 W.op rfl rfl hN (fun a ha => by
   have he : (eqGuard op T x y (.int k m) (.int k' n)) = pure () := by unfold eqGuard; split <;> rfl
   simp [execOp, ha.ev hx, ha.ev hy, he, hr]) next
theorem W.addU {m n : Nat} (hx : ev l x = some (.int k (m : Int))) (hy : ev l y = some (.int k (n : Int))) (hk : modOf k = M) (hM : Nat.blt 0 M = true) (hN : Nat.blt d N = true)
   (next : W P N ops Q rest ((d, .int k ((addM M m n : Nat) : Int)) :: l) w) : W P N ops Q (⟨some d, .binOp .add T x y T', ty, pos, aft, none⟩ :: rest) l w :=
 W.bin hx hy (by simp only [binOp, ne_eq, not_true_eq_false, if_false, Op.intArith, Sem.run_pure]; rw [show (m : Int) + (n : Int) = ((m + n : Nat) : Int) by omega, wrap_un hk hM]; rfl) hN next
theorem W.subU {m n : Nat} (hx : ev l x = some (.int k (m : Int))) (hy : ev l y = some (.int k (n : Int))) (hk : modOf k = M) (hM : Nat.blt 0 M = true) (hN : Nat.blt d N = true)
   (next : W P N ops Q rest ((d, .int k ((subM M m n : Nat) : Int)) :: l) w) : W P N ops Q (⟨some d, .binOp .sub T x y T', ty, pos, aft, none⟩ :: rest) l w :=
 W.bin hx hy (by simp only [binOp, ne_eq, not_true_eq_false, if_false, Op.intArith, Sem.run_pure]; rw [wrap_sub hk hM]) hN next
theorem W.mulU {m n : Nat} (hx : ev l x = some (.int k (m : Int))) (hy : ev l y = some (.int k (n : Int))) (hk : modOf k = M) (hM : Nat.blt 0 M = true) (hN : Nat.blt d N = true)
   (next : W P N ops Q rest ((d, .int k ((mulM M m n : Nat) : Int)) :: l) w) : W P N ops Q (⟨some d, .binOp .mul T x y T', ty, pos, aft, none⟩ :: rest) l w :=
 W.bin hx hy (by simp only [binOp, ne_eq, not_true_eq_false, if_false, Op.intArith, Sem.run_pure]; rw [show (m : Int) * (n : Int) = ((m * n : Nat) : Int) by simp, wrap_un hk hM]; rfl) hN next
theorem bits_and {k : IntKind} {M : Nat} (hk : modOf k = M) (hM : Nat.blt 0 M = true) (m n : Nat) : k.wrap ((BitVec.ofInt k.bits (m : Int) &&& BitVec.ofInt k.bits (n : Int)).toNat : Nat) = ((landM M m n : Nat) : Int) := by
 rw [wrap_un hk hM, ← (pow_bits hk hM).1]
 simp only [BitVec.ofInt_natCast, BitVec.toNat_and, BitVec.toNat_ofNat, landM, Nat.and_mod_two_pow, Nat.mod_mod]
theorem bits_or {k : IntKind} {M : Nat} (hk : modOf k = M) (hM : Nat.blt 0 M = true) (m n : Nat) : k.wrap ((BitVec.ofInt k.bits (m : Int) ||| BitVec.ofInt k.bits (n : Int)).toNat : Nat) = ((iorM M m n : Nat) : Int) := by
 rw [wrap_un hk hM, ← (pow_bits hk hM).1]
 simp only [BitVec.ofInt_natCast, BitVec.toNat_or, BitVec.toNat_ofNat, iorM, Nat.or_mod_two_pow, Nat.mod_mod]
theorem bits_xor {k : IntKind} {M : Nat} (hk : modOf k = M) (hM : Nat.blt 0 M = true) (m n : Nat) : k.wrap ((BitVec.ofInt k.bits (m : Int) ^^^ BitVec.ofInt k.bits (n : Int)).toNat : Nat) = ((xorM M m n : Nat) : Int) := by
 rw [wrap_un hk hM, ← (pow_bits hk hM).1]
 simp only [BitVec.ofInt_natCast, BitVec.toNat_xor, BitVec.toNat_ofNat, xorM, Nat.xor_mod_two_pow, Nat.mod_mod]
theorem W.andU {m n : Nat} (hx : ev l x = some (.int k (m : Int))) (hy : ev l y = some (.int k (n : Int))) (hk : modOf k = M) (hM : Nat.blt 0 M = true) (hN : Nat.blt d N = true)
   (next : W P N ops Q rest ((d, .int k ((landM M m n : Nat) : Int)) :: l) w) : W P N ops Q (⟨some d, .binOp .and T x y T', ty, pos, aft, none⟩ :: rest) l w :=
 W.bin hx hy (by simp only [binOp, ne_eq, not_true_eq_false, if_false, Op.intBits, Sem.run_pure, bits_and hk hM]) hN next
theorem W.orU {m n : Nat} (hx : ev l x = some (.int k (m : Int))) (hy : ev l y = some (.int k (n : Int))) (hk : modOf k = M) (hM : Nat.blt 0 M = true) (hN : Nat.blt d N = true)
   (next : W P N ops Q rest ((d, .int k ((iorM M m n : Nat) : Int)) :: l) w) : W P N ops Q (⟨some d, .binOp .or T x y T', ty, pos, aft, none⟩ :: rest) l w :=
 W.bin hx hy (by simp only [binOp, ne_eq, not_true_eq_false, if_false, Op.intBits, Sem.run_pure, bits_or hk hM]) hN next
theorem W.xorU {m n : Nat} (hx : ev l x = some (.int k (m : Int))) (hy : ev l y = some (.int k (n : Int))) (hk : modOf k = M) (hM : Nat.blt 0 M = true) (hN : Nat.blt d N = true)
   (next : W P N ops Q rest ((d, .int k ((xorM M m n : Nat) : Int)) :: l) w) : W P N ops Q (⟨some d, .binOp .xor T x y T', ty, pos, aft, none⟩ :: rest) l w :=
 W.bin hx hy (by simp only [binOp, ne_eq, not_true_eq_false, if_false, Op.intBits, Sem.run_pure, bits_xor hk hM]) hN next
theorem W.shlU {m s B : Nat} {ky : IntKind} (hx : ev l x = some (.int k (m : Int))) (hy : ev l y = some (.int ky (s : Int))) (hk : modOf k = M) (hM : Nat.blt 0 M = true) (hB : k.bits = B) (hN : Nat.blt d N = true)
   (next : W P N ops Q rest ((d, .int k ((shlM M B m s : Nat) : Int)) :: l) w) : W P N ops Q (⟨some d, .binOp .shl T x y T', ty, pos, aft, none⟩ :: rest) l w :=
 W.bin hx hy (by
   have h0 : ¬ ((s : Int) < 0) := by omega
   simp only [binOp, Op.shift, if_neg h0, Sem.run_pure, Int.toNat_natCast, hB]
   rw [show (m : Int) * 2 ^ (min s B) = ((m * 2 ^ (min s B) : Nat) : Int) by simp, wrap_un hk hM]; rfl) hN next
theorem W.shrU {m s B : Nat} {ky : IntKind} (hx : ev l x = some (.int k (m : Int))) (hy : ev l y = some (.int ky (s : Int))) (hB : k.bits = B) (hN : Nat.blt d N = true)
   (next : W P N ops Q rest ((d, .int k ((shrM B m s : Nat) : Int)) :: l) w) : W P N ops Q (⟨some d, .binOp .shr T x y T', ty, pos, aft, none⟩ :: rest) l w :=
 W.bin hx hy (by
   have h0 : ¬ ((s : Int) < 0) := by omega
   simp only [binOp, Op.shift, if_neg h0, Sem.run_pure, Int.toNat_natCast, hB, shrM]
   rw [Int.fdiv_eq_ediv_of_nonneg _ (by exact Int.le_of_lt (Int.pow_pos (by decide)))]
   simp) hN next
theorem W.remU {m n : Nat} (hx : ev l x = some (.int k (m : Int))) (hy : ev l y = some (.int k (n : Int))) (hn : 0 < n) (hN : Nat.blt d N = true)
   (next : W P N ops Q rest ((d, .int k ((m % n : Nat) : Int)) :: l) w) : W P N ops Q (⟨some d, .binOp .rem T x y T', ty, pos, aft, none⟩ :: rest) l w :=
 W.bin hx hy (by
   have h0 : ¬ ((n : Int) = 0) := by omega
   simp only [binOp, ne_eq, not_true_eq_false, if_false, Op.intDiv, if_neg h0, Sem.run_pure]
   rw [Int.tmod_eq_emod_of_nonneg (by omega)]; simp) hN next
theorem W.lssU {m n : Nat} (hx : ev l x = some (.int k (m : Int))) (hy : ev l y = some (.int k (n : Int))) (hN : Nat.blt d N = true)
   (next : W P N ops Q rest ((d, .bool (decide (m < n))) :: l) w) : W P N ops Q (⟨some d, .binOp .lss T x y T', ty, pos, aft, none⟩ :: rest) l w :=
 W.bin hx hy (by simp [binOp, Op.intCmp]) hN next
theorem W.gtrU {m n : Nat} (hx : ev l x = some (.int k (m : Int))) (hy : ev l y = some (.int k (n : Int))) (hN : Nat.blt d N = true)
   (next : W P N ops Q rest ((d, .bool (decide (n < m))) :: l) w) : W P N ops Q (⟨some d, .binOp .gtr T x y T', ty, pos, aft, none⟩ :: rest) l w :=
 W.bin hx hy (by simp [binOp, Op.intCmp]) hN next
theorem W.geqU {m n : Nat} (hx : ev l x = some (.int k (m : Int))) (hy : ev l y = some (.int k (n : Int))) (hN : Nat.blt d N = true)
   (next : W P N ops Q rest ((d, .bool (decide (n ≤ m))) :: l) w) : W P N ops Q (⟨some d, .binOp .geq T x y T', ty, pos, aft, none⟩ :: rest) l w :=
 W.bin hx hy (by simp [binOp, Op.intCmp]) hN next
theorem W.eqlU {m n : Nat} (hx : ev l x = some (.int k (m : Int))) (hy : ev l y = some (.int k (n : Int))) (hN : Nat.blt d N = true)
   (next : W P N ops Q rest ((d, .bool (decide (m = n))) :: l) w) : W P N ops Q (⟨some d, .binOp .eql T x y T', ty, pos, aft, none⟩ :: rest) l w :=
 W.bin hx hy (by
   have e : ((m : Int) == (n : Int)) = decide (m = n) := by rw [Bool.eq_iff_iff]; simp; omega
   simp only [binOp, ne_eq, not_true_eq_false, if_false, Op.intCmp, Sem.run_pure, e]) hN next
theorem W.neqU {m n : Nat} (hx : ev l x = some (.int k (m : Int))) (hy : ev l y = some (.int k (n : Int))) (hN : Nat.blt d N = true)
   (next : W P N ops Q rest ((d, .bool (decide (¬ m = n))) :: l) w) : W P N ops Q (⟨some d, .binOp .neq T x y T', ty, pos, aft, none⟩ :: rest) l w :=
 W.bin hx hy (by
   have e : ((m : Int) != (n : Int)) = decide (¬ m = n) := by rw [Bool.eq_iff_iff]; simp; omega
   simp only [binOp, ne_eq, not_true_eq_false, if_false, Op.intCmp, Sem.run_pure, e]) hN next
theorem W.addI {m n : Int} (hx : ev l x = some (.int .i64 m)) (hy : ev l y = some (.int .i64 n)) (hb : -9223372036854775808 ≤ m + n ∧ m + n ≤ 9223372036854775807) (hN : Nat.blt d N = true)
   (next : W P N ops Q rest ((d, .int .i64 (m + n)) :: l) w) : W P N ops Q (⟨some d, .binOp .add T x y T', ty, pos, aft, none⟩ :: rest) l w :=
 W.bin hx hy (by simp only [binOp, ne_eq, not_true_eq_false, if_false, Op.intArith, Sem.run_pure, i64_in' _ hb]) hN next
theorem W.subI {m n : Int} (hx : ev l x = some (.int .i64 m)) (hy : ev l y = some (.int .i64 n)) (hb : -9223372036854775808 ≤ m - n ∧ m - n ≤ 9223372036854775807) (hN : Nat.blt d N = true)
   (next : W P N ops Q rest ((d, .int .i64 (m - n)) :: l) w) : W P N ops Q (⟨some d, .binOp .sub T x y T', ty, pos, aft, none⟩ :: rest) l w :=
 W.bin hx hy (by simp only [binOp, ne_eq, not_true_eq_false, if_false, Op.intArith, Sem.run_pure, i64_in' _ hb]) hN next
theorem W.mulI {m n : Int} (hx : ev l x = some (.int .i64 m)) (hy : ev l y = some (.int .i64 n)) (hb : -9223372036854775808 ≤ m * n ∧ m * n ≤ 9223372036854775807) (hN : Nat.blt d N = true)
   (next : W P N ops Q rest ((d, .int .i64 (m * n)) :: l) w) : W P N ops Q (⟨some d, .binOp .mul T x y T', ty, pos, aft, none⟩ :: rest) l w :=
 W.bin hx hy (by simp only [binOp, ne_eq, not_true_eq_false, if_false, Op.intArith, Sem.run_pure, i64_in' _ hb]) hN next
theorem W.remI {m n : Int} (hx : ev l x = some (.int .i64 m)) (hy : ev l y = some (.int .i64 n)) (hb : 0 ≤ m ∧ ¬ n = 0) (hN : Nat.blt d N = true)
   (next : W P N ops Q rest ((d, .int .i64 (m % n)) :: l) w) : W P N ops Q (⟨some d, .binOp .rem T x y T', ty, pos, aft, none⟩ :: rest) l w :=
 W.bin hx hy (by
   simp only [binOp, ne_eq, not_true_eq_false, if_false, Op.intDiv, if_neg hb.2, Sem.run_pure]
   rw [Int.tmod_eq_emod_of_nonneg hb.1]) hN next
theorem W.remW {m n : Int} (hx : ev l x = some (.int .i64 m)) (hy : ev l y = some (.int .i64 n)) (hb : ¬ n = 0) (hN : Nat.blt d N = true)
   (next : W P N ops Q rest ((d, .int .i64 (m.tmod n)) :: l) w) : W P N ops Q (⟨some d, .binOp .rem T x y T', ty, pos, aft, none⟩ :: rest) l w :=
 W.bin hx hy (by simp only [binOp, ne_eq, not_true_eq_false, if_false, Op.intDiv, if_neg hb, Sem.run_pure]) hN next
theorem W.lssI {m n : Int} (hx : ev l x = some (.int k m)) (hy : ev l y = some (.int k n)) (hN : Nat.blt d N = true)
   (next : W P N ops Q rest ((d, .bool (decide (m < n))) :: l) w) : W P N ops Q (⟨some d, .binOp .lss T x y T', ty, pos, aft, none⟩ :: rest) l w :=
 W.bin hx hy (by simp [binOp, Op.intCmp]) hN next
theorem W.leqI {m n : Int} (hx : ev l x = some (.int k m)) (hy : ev l y = some (.int k n)) (hN : Nat.blt d N = true)
   (next : W P N ops Q rest ((d, .bool (decide (m ≤ n))) :: l) w) : W P N ops Q (⟨some d, .binOp .leq T x y T', ty, pos, aft, none⟩ :: rest) l w :=
 W.bin hx hy (by simp [binOp, Op.intCmp]) hN next
theorem W.gtrI {m n : Int} (hx : ev l x = some (.int k m)) (hy : ev l y = some (.int k n)) (hN : Nat.blt d N = true)
   (next : W P N ops Q rest ((d, .bool (decide (n < m))) :: l) w) : W P N ops Q (⟨some d, .binOp .gtr T x y T', ty, pos, aft, none⟩ :: rest) l w :=
 W.bin hx hy (by simp [binOp, Op.intCmp]) hN next
theorem W.geqI {m n : Int} (hx : ev l x = some (.int k m)) (hy : ev l y = some (.int k n)) (hN : Nat.blt d N = true)
   (next : W P N ops Q rest ((d, .bool (decide (n ≤ m))) :: l) w) : W P N ops Q (⟨some d, .binOp .geq T x y T', ty, pos, aft, none⟩ :: rest) l w :=
 W.bin hx hy (by simp [binOp, Op.intCmp]) hN next
theorem W.eqlI {m n : Int} (hx : ev l x = some (.int k m)) (hy : ev l y = some (.int k n)) (hN : Nat.blt d N = true)
   (next : W P N ops Q rest ((d, .bool (decide (m = n))) :: l) w) : W P N ops Q (⟨some d, .binOp .eql T x y T', ty, pos, aft, none⟩ :: rest) l w :=
 W.bin hx hy (by
   have e : (m == n) = decide (m = n) := by rw [Bool.eq_iff_iff]; simp
   simp only [binOp, ne_eq, not_true_eq_false, if_false, Op.intCmp, Sem.run_pure, e]) hN next
theorem W.neqI {m n : Int} (hx : ev l x = some (.int k m)) (hy : ev l y = some (.int k n)) (hN : Nat.blt d N = true)
   (next : W P N ops Q rest ((d, .bool (decide (¬ m = n))) :: l) w) : W P N ops Q (⟨some d, .binOp .neq T x y T', ty, pos, aft, none⟩ :: rest) l w :=
 W.bin hx hy (by
   have e : (m != n) = decide (¬ m = n) := by rw [Bool.eq_iff_iff]; simp
   simp only [binOp, ne_eq, not_true_eq_false, if_false, Op.intCmp, Sem.run_pure, e]) hN next
theorem equalIn_bool (n : Nat) {a b : Bool} (hT : P.underlying T = some .bool) : (Op.equalIn (n + 1) T (.bool a) (.bool b)).run P w = .ok (a == b) w := by
 simp [Op.equalIn, run_underlying hT]
theorem equal_bool {a b : Bool} (hT : P.underlying T = some .bool) : (Op.equal T (.bool a) (.bool b)).run P w = .ok (a == b) w := equalIn_bool 9999 hT
theorem W.eqlB {a b : Bool} (hx : ev l x = some (.bool a)) (hy : ev l y = some (.bool b)) (hT : P.underlying T = some .bool) (hN : Nat.blt d N = true)
   (next : W P N ops Q rest ((d, .bool (a == b)) :: l) w) : W P N ops Q (⟨some d, .binOp .eql T x y T', ty, pos, aft, none⟩ :: rest) l w :=
 W.op rfl rfl hN (fun f ha => by
   have he : (eqGuard .eql T x y (.bool a) (.bool b)) = pure () := by unfold eqGuard; split <;> rfl
   simp only [execOp, ha.ev hx, ha.ev hy, he, binOp, Sem.run_bind, Sem.run_pure, Result.andThen_ok, equal_bool hT]) next
theorem W.notD {p : Prop} [Decidable p] (hx : ev l x = some (.bool (decide p))) (hN : Nat.blt d N = true)
   (next : W P N ops Q rest ((d, .bool (decide (¬ p))) :: l) w) : W P N ops Q (⟨some d, .unOp .not T x, ty, pos, aft, none⟩ :: rest) l w :=
 W.op rfl rfl hN (fun a ha => by simp [execOp, ha.ev hx, Op.unary]) next
theorem W.notB {b : Bool} (hx : ev l x = some (.bool b)) (hN : Nat.blt d N = true)
   (next : W P N ops Q rest ((d, .bool (!b)) :: l) w) : W P N ops Q (⟨some d, .unOp .not T x, ty, pos, aft, none⟩ :: rest) l w :=
 W.op rfl rfl hN (fun a ha => by simp [execOp, ha.ev hx, Op.unary]) next
theorem bits_not {k : IntKind} {M : Nat} (hk : modOf k = M) (hM : Nat.blt 0 M = true) (m : Nat) : k.wrap ((BitVec.ofInt k.bits (if k.signed then -1 else k.max) ^^^ BitVec.ofInt k.bits (m : Int)).toNat : Nat) = ((notM M m : Nat) : Int) := by
 obtain ⟨h1, h2⟩ := pow_bits hk hM
 have hM0 : 0 < M := lt_of_blt hM
 have hmax : k.max = ((M - 1 : Nat) : Int) := by
   have h3 : ((2 : Int) ^ k.bits) = (M : Int) := by rw [← h1]; simp
   simp only [IntKind.max, h2, Bool.false_eq_true, if_false, h3]; omega
 rw [h2, if_neg (by simp), hmax, bits_xor hk hM]
 rfl
theorem W.notU {m : Nat} (hx : ev l x = some (.int k (m : Int))) (hk : modOf k = M) (hM : Nat.blt 0 M = true) (hN : Nat.blt d N = true)
   (next : W P N ops Q rest ((d, .int k ((notM M m : Nat) : Int)) :: l) w) : W P N ops Q (⟨some d, .unOp .xor T x, ty, pos, aft, none⟩ :: rest) l w :=
 W.op rfl rfl hN (fun a ha => by
   have := bits_not hk hM m
   simp only [execOp, ha.ev hx, Op.unary, Op.intBits]
   simp only [Sem.run_bind, Sem.run_pure, Result.andThen_ok, this]) next
theorem W.conv {src dst : TypeId} {k k' : IntKind} {n : Int} {ds : TypeDesc} (hx : ev l x = some (.int k n)) (hs : P.underlying src = some ds) (hd : P.underlying dst = some (.int k')) (hN : Nat.blt d N = true)
   (next : W P N ops Q rest ((d, .int k' (k'.wrap n)) :: l) w) : W P N ops Q (⟨some d, .convert src dst x, ty, pos, aft, none⟩ :: rest) l w :=
 W.op rfl rfl hN (fun a ha => by simp [execOp, ha.ev hx, convert, run_underlying hs, run_underlying hd, Conv.intToInt]) next
theorem W.convUU {src dst : TypeId} {k k' : IntKind} {m M : Nat} {ds : TypeDesc} (hx : ev l x = some (.int k (m : Int))) (hs : P.underlying src = some ds) (hd : P.underlying dst = some (.int k')) (hk : modOf k' = M) (hM : Nat.blt 0 M = true) (hN : Nat.blt d N = true)
   (next : W P N ops Q rest ((d, .int k' ((m % M : Nat) : Int)) :: l) w) : W P N ops Q (⟨some d, .convert src dst x, ty, pos, aft, none⟩ :: rest) l w :=
 W.conv hx hs hd hN (by rw [wrap_un hk hM]; exact next)
theorem W.convU {src dst : TypeId} {k k' : IntKind} {m M : Nat} {ds : TypeDesc} (hx : ev l x = some (.int k (m : Int))) (hs : P.underlying src = some ds) (hd : P.underlying dst = some (.int k')) (hk : modOf k' = M) (hM : Nat.blt 0 M = true) (hm : m < M) (hN : Nat.blt d N = true)
   (next : W P N ops Q rest ((d, .int k' (m : Int)) :: l) w) : W P N ops Q (⟨some d, .convert src dst x, ty, pos, aft, none⟩ :: rest) l w :=
 W.conv hx hs hd hN (by rw [wrap_un hk hM, Nat.mod_eq_of_lt hm]; exact next)
theorem W.convIU {src dst : TypeId} {k k' : IntKind} {i : Int} {M : Nat} {ds : TypeDesc} (hx : ev l x = some (.int k i)) (hs : P.underlying src = some ds) (hd : P.underlying dst = some (.int k')) (hk : modOf k' = M) (hM : Nat.blt 0 M = true) (hN : Nat.blt d N = true)
   (next : W P N ops Q rest ((d, .int k' ((iu M i : Nat) : Int)) :: l) w) : W P N ops Q (⟨some d, .convert src dst x, ty, pos, aft, none⟩ :: rest) l w :=
 W.conv hx hs hd hN (by rw [wrap_iu hk hM]; exact next)
theorem W.convIN {src dst : TypeId} {k k' : IntKind} {i : Int} {M : Nat} {ds : TypeDesc} (hx : ev l x = some (.int k i)) (hs : P.underlying src = some ds) (hd : P.underlying dst = some (.int k')) (hk : modOf k' = M) (hM : Nat.blt 0 M = true) (hi : 0 ≤ i ∧ i < (M : Int)) (hN : Nat.blt d N = true)
   (next : W P N ops Q rest ((d, .int k' ((i.toNat : Nat) : Int)) :: l) w) : W P N ops Q (⟨some d, .convert src dst x, ty, pos, aft, none⟩ :: rest) l w :=
 W.conv hx hs hd hN (by
   have e : k'.wrap i = ((i.toNat : Nat) : Int) := by rw [wrap_u hk hM, Int.toNat_of_nonneg hi.1, Int.emod_eq_of_lt hi.1 hi.2]
   rw [e]; exact next)
theorem W.convI {src dst : TypeId} {k : IntKind} {i : Int} {ds : TypeDesc} (hx : ev l x = some (.int k i)) (hs : P.underlying src = some ds) (hd : P.underlying dst = some (.int .i64)) (hi : -9223372036854775808 ≤ i ∧ i ≤ 9223372036854775807) (hN : Nat.blt d N = true)
   (next : W P N ops Q rest ((d, .int .i64 i) :: l) w) : W P N ops Q (⟨some d, .convert src dst x, ty, pos, aft, none⟩ :: rest) l w :=
 W.conv hx hs hd hN (by rw [i64_in' _ hi]; exact next)
end
structure Chg (S : Nat → Prop) (w w' : World) : Prop where
  os : w'.os = w.os
  tape : w'.tape = w.tape
  output : w'.output = w.output
  size : w.heap.size ≤ w'.heap.size
  block : ∀ k, k < w.heap.size → ¬ S k → w'.heap[k]? = w.heap[k]?
abbrev Ext (w w' : World) : Prop := Chg (fun _ => False) w w'
theorem Chg.refl (S : Nat → Prop) (w : World) : Chg S w w := ⟨rfl, rfl, rfl, Nat.le_refl _, fun _ _ _ => rfl⟩
theorem Ext.refl (w : World) : Ext w w := Chg.refl _ w
theorem Chg.mono {S T : Nat → Prop} {w w' : World} (h : Chg S w w') (hs : ∀ k, S k → T k) : Chg T w w' := ⟨h.os, h.tape, h.output, h.size, fun k hk hn => h.block k hk fun c => hn (hs k c)⟩
theorem Chg.trans {S : Nat → Prop} {a b c : World} (h : Chg S a b) (g : Chg S b c) : Chg S a c :=
 ⟨g.os.trans h.os, g.tape.trans h.tape, g.output.trans h.output, Nat.le_trans h.size g.size, fun k hk hn => (g.block k (Nat.lt_of_lt_of_le hk h.size) hn).trans (h.block k hk hn)⟩
theorem Chg.news {S T : Nat → Prop} {a b c : World} (h : Chg S a b) (g : Chg T b c) (ht : ∀ k, T k → S k ∨ a.heap.size ≤ k) : Chg S a c :=
 ⟨g.os.trans h.os, g.tape.trans h.tape, g.output.trans h.output, Nat.le_trans h.size g.size, fun k hk hn => (g.block k (Nat.lt_of_lt_of_le hk h.size) fun c => (ht k c).elim hn fun c => by omega).trans (h.block k hk hn)⟩
theorem Chg.ext {S : Nat → Prop} {a b c : World} (h : Chg S a b) (g : Ext b c) : Chg S a c := h.news g fun k hk => hk.elim
theorem Chg.of_grown {w w' : World} {row : Option Nat} (h : w.grownBy w' row) : Chg (fun k => some k = row) w w' := ⟨h.os, h.tape, h.output, h.size, fun k hk hn => h.block k hk hn⟩
theorem Ext.below {w w' : World} (h : Ext w w') : Below w.heap.size w w' := ⟨h.os, h.tape, h.output, h.size, fun k hk => h.block k hk fun c => c⟩
theorem Ext.of_below {w w' : World} (h : Below w.heap.size w w') : Ext w w' := ⟨h.os, h.tape, h.output, h.size, fun k hk _ => h.block k hk⟩
theorem Ext.alloc (w : World) (o : Obj) : Ext w (w.alloc o) := Ext.of_below ((Below.refl _ _).alloc (Nat.le_refl _) o)
theorem Ext.drew (w : World) : Ext w w.drew := ⟨rfl, rfl, rfl, Nat.le_refl _, fun _ _ _ => rfl⟩
theorem add_block (ad : Addr) (n : Nat) : (ad.add n).block = ad.block := by unfold Addr.add; split <;> rfl
theorem add_mk (b o n : Nat) : (⟨b, o, none⟩ : Addr).add n = ⟨b, o + n, none⟩ := by unfold Addr.add; split <;> simp_all
theorem add_add (ad : Addr) (m n : Nat) : (ad.add m).add n = ad.add (m + n) := by
 unfold Addr.add
 by_cases hi : m = 0 <;> by_cases hj : n = 0 <;> simp [hi, hj, Nat.add_assoc]
theorem add_zero' (ad : Addr) : ad.add 0 = ad := by unfold Addr.add; rw [if_pos rfl]
def Cells (w : World) (ad : Addr) (cs : List Value) : Prop := ∀ j u, cs[j]? = some u → w.cell? (ad.add j) = some u
theorem cell_lt {w : World} {a : Addr} {v : Value} (h : w.cell? a = some v) : a.block < w.heap.size := World.block_lt_of_cell? w a h
theorem Chg.cell {S : Nat → Prop} {w w' : World} (c : Chg S w w') {a : Addr} {v : Value} (h : w.cell? a = some v) (hn : ¬ S a.block) : w'.cell? a = some v :=
 (World.cell?_of_block (c.block a.block (cell_lt h) hn)).trans h
theorem Cells.chg {S : Nat → Prop} {w w' : World} {ad : Addr} {cs : List Value} (h : Cells w ad cs) (c : Chg S w w') (hn : ¬ S ad.block) : Cells w' ad cs :=
 fun j u hu => c.cell (h j u hu) (by rw [add_block]; exact hn)
theorem Cells.drop {w : World} {ad : Addr} {cs : List Value} (h : Cells w ad cs) (m : Nat) : Cells w (ad.add m) (cs.drop m) := by
 intro j u hu
 rw [add_add]
 exact h (m + j) u (by simpa using hu)
theorem Cells.take {w : World} {ad : Addr} {cs : List Value} (h : Cells w ad cs) (m : Nat) : Cells w ad (cs.take m) := by
 intro j u hu
 rw [List.getElem?_take] at hu
 split at hu
 exact h j u hu
 cases hu
structure Sl (w : World) (ao : Option Addr) (n c sz : Nat) (cs : List Value) : Prop where
  le : n ≤ c
  len : cs.length = n * sz
  nil : ao = none → c = 0
  at_ : ∀ ad, ao = some ad → Cells w ad cs
theorem Sl.none (w : World) (sz : Nat) : Sl w none 0 0 sz [] := ⟨Nat.le_refl _, by simp, fun _ => rfl, fun ad h => by cases h⟩
theorem Sl.chg {S : Nat → Prop} {w w' : World} {ao : Option Addr} {n c sz : Nat} {cs : List Value} (h : Sl w ao n c sz cs) (g : Chg S w w') (hn : ∀ ad, ao = some ad → cs ≠ [] → ¬ S ad.block) : Sl w' ao n c sz cs :=
 ⟨h.le, h.len, h.nil, fun ad e => by
   by_cases hc : cs = []
   subst hc; intro j u hu; simp at hu
   exact (h.at_ ad e).chg g (hn ad e hc)⟩
theorem Sl.ext {w w' : World} {ao : Option Addr} {n c sz : Nat} {cs : List Value} (h : Sl w ao n c sz cs) (g : Ext w w') : Sl w' ao n c sz cs := h.chg g fun _ _ _ c => c
theorem Sl.blk {w : World} {ao : Option Addr} {n c sz : Nat} {cs : List Value} (h : Sl w ao n c sz cs) {ad : Addr} (e : ao = some ad) (hc : cs ≠ []) : ad.block < w.heap.size := by
 obtain ⟨v, r, rfl⟩ := List.exists_cons_of_ne_nil hc
 have := cell_lt ((h.at_ ad e) 0 v rfl)
 rwa [add_block] at this
theorem Sl.sub {w : World} {ao : Option Addr} {n c sz : Nat} {cs : List Value} (h : Sl w ao n c sz cs) (lo hi : Nat) (h1 : lo ≤ hi) (h2 : hi ≤ n) :
   Sl w (if c = lo then ao else ao.map (·.add (lo * sz))) (hi - lo) (c - lo) sz ((cs.drop (lo * sz)).take ((hi - lo) * sz)) := by
 have hle := h.le
 refine ⟨by omega, ?_, ?_, ?_⟩
 rw [List.length_take, List.length_drop, h.len, ← Nat.sub_mul]
 exact Nat.min_eq_left (Nat.mul_le_mul_right _ (by omega))
 intro e
 split at e
 have := h.nil e; omega
 have := h.nil (by simpa using e); omega
 intro ad e
 split at e
 rename_i hc
 obtain rfl : hi = lo := by omega
 intro j u hu
 simp at hu
 cases ao with
 | none => cases e
 | some a =>
   obtain rfl := Option.some.inj e
   exact ((h.at_ a rfl).drop _).take _
def byteV (b : UInt8) : Value := .int .u8 ((b.toNat : Nat) : Int)
abbrev Bs (w : World) (ao : Option Addr) (c : Nat) (xs : List UInt8) : Prop := Sl w ao xs.length c 1 (xs.map byteV)
abbrev Ow (w : World) (base e : Nat) (v : Value) (xs : List UInt8) : Prop := w.ownsRow base e 1 v xs.length (xs.map byteV)
theorem ownsRow_chg {S : Nat → Prop} {w w' : World} {base e sz n : Nat} {v : Value} {cs : List Value} (h : w.ownsRow base e sz v n cs) (g : Chg S w w') (hn : ∀ k, v.ownBlock = some k → ¬ S k) : w'.ownsRow base e sz v n cs := by
 refine ⟨h.1, ?_⟩
 rcases h.2 with hn' | ⟨b, cap, cur, rfl, hb, hgg, rest⟩
 exact .inl hn'
 refine .inr ⟨b, cap, cur, rfl, hb, ?_, rest⟩
 rw [g.block b (Array.getElem?_eq_some_iff.1 hgg).1 (hn b rfl)]
 exact hgg
theorem ownsRow_ext {w w' : World} {base e sz n : Nat} {v : Value} {cs : List Value} (h : w.ownsRow base e sz v n cs) (g : Ext w w') : w'.ownsRow base e sz v n cs := ownsRow_chg h g fun _ _ c => c
theorem ownsRow_base {w : World} {base base' e sz n : Nat} {v : Value} {cs : List Value} (h : w.ownsRow base e sz v n cs) (hb : base' ≤ base) : w.ownsRow base' e sz v n cs := by
 refine ⟨h.1, ?_⟩
 rcases h.2 with hn' | ⟨b, cap, cur, rfl, hb', rest⟩
 exact .inl hn'
 exact .inr ⟨b, cap, cur, rfl, by omega, rest⟩
theorem ownsRow_form {w : World} {base e sz n : Nat} {v : Value} {cs : List Value} (h : w.ownsRow base e sz v n cs) : ∃ ao c, v = .slice ao n c ∧ Sl w ao n c sz cs ∧ ∀ ad, ao = some ad → base ≤ ad.block := by
 rcases h.2 with ⟨rfl, rfl⟩ | ⟨g, cap, cur, rfl, hb, hg, hnc, hcm, hcs, htake⟩
 have : cs = [] := List.eq_nil_of_length_eq_zero (by simpa using h.1)
 subst this
 exact ⟨none, 0, rfl, Sl.none w sz, fun ad e => by cases e⟩
 refine ⟨some ⟨g, 0, none⟩, cap, rfl, ⟨hnc, h.1, (fun e => by cases e), ?_⟩, ?_⟩
 intro ad e
 obtain rfl := Option.some.inj e
 exact h.cells rfl
 intro ad e
 obtain rfl := Option.some.inj e
 exact hb
theorem Ow.nil (w : World) (base e : Nat) : Ow w base e (.slice none 0 0) [] := World.ownsRow_nil w base e 1
section
variable {P : Program} {N : Nat} {Q : Exit → Act → World → Prop} {l : Env} {w : World} {ops : Array Oper} {rest : List Oper} {d : Tmp} {ty : TypeId} {pos : String} {aft : Array Edge}
variable {x y : Operand} {T T' : TypeId}
theorem run_len {tys : Array TypeId} {v r : Value} (h : (Builtin.len_ tys ty #[v]).run P w = .ok r w) (hx : ev l x = some v) (hN : Nat.blt d N = true) (next : W P N ops Q rest ((d, r) :: l) w) : W P N ops Q (⟨some d, .call ⟨.builtin .len, #[x], tys⟩, ty, pos, aft, none⟩ :: rest) l w :=
 W.op rfl rfl hN (fun a ha => by
   simp only [execOp, resolve, invoke, builtin, List.map_toArray, List.map_cons, List.map_nil, ha.ev hx, Sem.run_bind, Sem.run_pure, Result.andThen_ok, h]) next
theorem W.lenS {ao : Option Addr} {n c e : Nat} (hx : ev l x = some (.slice ao n c)) (hT : P.underlying T = some (.slice e)) (hN : Nat.blt d N = true) (next : W P N ops Q rest ((d, .int .i64 (n : Int)) :: l) w) : W P N ops Q (⟨some d, .call ⟨.builtin .len, #[x], #[T]⟩, ty, pos, aft, none⟩ :: rest) l w :=
 run_len (by simp [Builtin.len_, run_underlying hT, goInt]) hx hN next
structure Elem (P : Program) (e sz bytes : Nat) (z : Value) : Prop where
  out : ∃ i, P.info? e = some i ∧ i.zero = some z ∧ i.size = sz ∧ i.bytes = bytes
  zlen : z.cells.size = sz
  pos : 0 < sz
theorem Elem.of {P : Program} {e sz bytes : Nat} {z : Value} (h : (P.info? e).map (fun i => (i.zero, i.size, i.bytes)) = some (some z, sz, bytes)) (h1 : z.cells.size = sz) (h2 : Nat.blt 0 sz = true) : Elem P e sz bytes z :=
 ⟨info_parts h, h1, lt_of_blt h2⟩
theorem append_own {P : Program} (w : World) {e sz bytes base n m c : Nat} {t ty : TypeId} {z v : Value} {ad : Addr} {cs news : List Value} (hE : Elem P e sz bytes z) (hT : P.underlying t = some (.slice e))
   (hown : w.ownsRow base e sz v n cs) (hl : news.length = m * sz) (hc : Cells w ad news) (h1 : ∀ u ∈ news, u.oneCell' = true) (hlen : (n + m) * bytes ≤ 140737488355328) (hlen2 : n + m ≤ 140737488355328) (hbase : base ≤ w.heap.size) :
   ∃ v' w', (Builtin.append_ #[t, t] ty #[v, .slice (some ad) m c]).run P w = .ok v' w' ∧ w'.ownsRow base e sz v' (n + m) (cs ++ news) ∧ w.grownBy w' v.ownBlock ∧ (v'.ownBlock = v.ownBlock ∨ ∃ k, v'.ownBlock = some k ∧ w.heap.size ≤ k) := by
 obtain ⟨i, hi, hz, hsz, hby⟩ := hE.out
 have h63 : n + m ≤ maxLen := by unfold maxLen; omega
 obtain ⟨v', w', hr, h2, h3, h4⟩ := run_append_own (P := P) w base t ty e i z sz bytes hT hi hz hsz hby hE.zlen hE.pos v n cs hown ad m c news hl hc h1 h63 hlen hbase
 refine ⟨v', w', hr, h2, h3, ?_⟩
 rcases hown.2 with ⟨rfl, rfl⟩ | ⟨g, cap, cur, rfl, hbg, hg, hnc, hcm, hcs, htake⟩
 by_cases hm : m = 0
 left; rw [h4.2 ⟨rfl, hm⟩]
 have hcs0 : cs = [] := List.eq_nil_of_length_eq_zero (by simpa using hown.1)
 subst hcs0
 obtain ⟨v2, w2, hr2, g2, _, g4⟩ := run_append_own (P := P) w w.heap.size t ty e i z sz bytes hT hi hz hsz hby hE.zlen hE.pos _ 0 [] (World.ownsRow_nil w w.heap.size e sz) ad m c news hl hc h1 h63 hlen (Nat.le_refl _)
 rw [hr] at hr2
 obtain ⟨rfl, rfl⟩ := Result.ok.inj hr2
 right
 rcases g2.2 with ⟨_, h0⟩ | ⟨g, cap, cur, rfl, hb, _⟩
 omega
 exact ⟨g, rfl, hb⟩
 subst hsz
 by_cases hroom : n + m ≤ cap
 have hfit : n * i.size + news.length ≤ cur.size := by rw [hl, hcs, ← Nat.add_mul]; exact Nat.mul_le_mul_right _ hroom
 have hr2 := run_append_room (P := P) w t ty e i hT hi g n cap cur hg ad m c news hl hc h1 hroom hfit
 rw [hr] at hr2
 obtain ⟨rfl, _⟩ := Result.ok.inj hr2
 exact .inl rfl
 have holds : ∀ j u, cs[j]? = some u → w.cell? ((⟨g, 0, none⟩ : Addr).add j) = some u := hown.cells (g := g) rfl
 subst hby
 have hr2 := run_append_grow (P := P) w t ty e i z hT hi hz ⟨g, 0, none⟩ n cap cs hown.1 holds ad m c news hl hc (by omega) (by omega) (growslice_fits (by omega) hlen)
 rw [hr] at hr2
 obtain ⟨rfl, _⟩ := Result.ok.inj hr2
 exact .inr ⟨_, rfl, Nat.le_refl _⟩
theorem W.append {e sz bytes base n m c : Nat} {z v : Value} {ao : Option Addr} {cs news : List Value} (hE : Elem P e sz bytes z) (hT : P.underlying T = some (.slice e))
   (hx : ev l x = some v) (hy : ev l y = some (.slice ao m c)) (hown : w.ownsRow base e sz v n cs) (hs : Sl w ao m c sz news) (h1 : ∀ u ∈ news, u.oneCell' = true) (hlen : (n + m) * bytes ≤ 140737488355328) (hlen2 : n + m ≤ 140737488355328) (hbase : base ≤ w.heap.size) (hN : Nat.blt d N = true)
   (next : ∀ v' w', w'.ownsRow base e sz v' (n + m) (cs ++ news) → w.grownBy w' v.ownBlock → (v'.ownBlock = v.ownBlock ∨ ∃ k, v'.ownBlock = some k ∧ w.heap.size ≤ k) → W P N ops Q rest ((d, v') :: l) w') :
   W P N ops Q (⟨some d, .call ⟨.builtin .append, #[x, y], #[T, T]⟩, ty, pos, aft, none⟩ :: rest) l w := by
 obtain ⟨i, hi, hz, hsz, hby⟩ := hE.out
 cases ao with
 | none =>
   have hc0 := hs.nil rfl
   have hm0 : m = 0 := by have := hs.le; omega
   subst hc0; subst hm0
   have hnews : news = [] := List.eq_nil_of_length_eq_zero (by simpa using hs.len)
   subst hnews
   have hrun := run_append_owned_none (P := P) w base T ty e i sz hT hi v n cs hown
   refine W.op (v := v) (w' := w) rfl rfl hN (fun a ha => ?_) (next v w (by simpa using hown) (World.grownBy.refl _ _) (.inl rfl))
   simp only [execOp, resolve, invoke, builtin, Sem.run_bind, Sem.run_pure, Result.andThen_ok, List.map_toArray, List.map_cons, List.map_nil, ha.ev hx, ha.ev hy, hrun]
 | some ad =>
   have hc := hs.at_ ad rfl
   obtain ⟨v', w', hrun, h2, h3, h4⟩ := append_own (P := P) w (ty := ty) (c := c) hE hT hown hs.len hc h1 hlen hlen2 hbase
   refine W.op (v := v') (w' := w') rfl rfl hN (fun a ha => ?_) (next v' w' h2 h3 h4)
   simp only [execOp, resolve, invoke, builtin, Sem.run_bind, Sem.run_pure, Result.andThen_ok, List.map_toArray, List.map_cons, List.map_nil, ha.ev hx, ha.ev hy, hrun]
def evps (l : Env) : List (Nat × Operand) → Option (List (Nat × Value))
  | [] => some []
  | (i, x) :: r => match KW.ev l x, evps l r with
    | some v, some vs => some ((i, v) :: vs)
    | _, _ => none
theorem Has.evps {a : Act} (h : Has N l a) : ∀ {xs : List (Nat × Operand)} {vs : List (Nat × Value)}, evps l xs = some vs → xs.map (fun p => (p.1, a.eval p.2)) = vs := by
 intro xs
 induction xs with
 | nil => intro vs hv; simp [KW.evps] at hv; simp [hv]
 | cons x r ih =>
   intro vs hv
   obtain ⟨i, x⟩ := x
   unfold KW.evps at hv
   split at hv
   rename_i v vs' h1 h2
   obtain rfl := Option.some.inj hv
   simp [h.ev h1, ih h2]
   cases hv
theorem W.buildSlice {t e n sz bytes : Nat} {z : Value} {ps : List (Nat × Operand)} {vs : List (Nat × Value)} {cells : List Value} (hE : Elem P e sz bytes z) (hT : P.underlying t = some (.slice e)) (hp : evps l ps = some vs)
   (hf : Instr.fill (fun i => some (i * sz, sz)) ((Array.range (n * sz)).map (z.cells[· % z.cells.size]!)) vs = some cells.toArray) (hn : n * sz ≤ 16777216) (hlen : cells.length = n * sz) (h0 : ¬ n * sz = 0) (hN : Nat.blt d N = true)
   (next : ∀ g w', g = w.heap.size → Ext w w' → w'.ownsRow w.heap.size e sz (.slice (some ⟨g, 0, none⟩) n n) n cells → W P N ops Q rest ((d, .slice (some ⟨g, 0, none⟩) n n) :: l) w') :
   W P N ops Q (⟨some d, .buildSlice t n ps.toArray, ty, pos, aft, none⟩ :: rest) l w := by
 obtain ⟨i, hi, hz, hsz, hby⟩ := hE.out
 have hmax : n ≤ maxLen := by
   have : n * 1 ≤ n * sz := Nat.mul_le_mul_left n hE.pos
   unfold maxLen; omega
 have hb : ¬ 16777216 < n * sz := by omega
 refine W.op (v := .slice (some ⟨w.heap.size, 0, none⟩) n n) (w' := w.alloc (.cells cells.toArray e)) rfl rfl hN (fun a ha => ?_) (next _ _ rfl (Ext.alloc _ _) ?_)
 have hps : (ps.toArray.map fun (i, x) => (i, a.eval x)) = vs.toArray := by
   rw [List.map_toArray]; congr 1; exact ha.evps hp
 have hrun : (Instr.buildSlice t n vs.toArray).run P w = .ok (.slice (some ⟨w.heap.size, 0, none⟩) n n) (w.alloc (.cells cells.toArray e)) := by
   subst hsz
   simp [Instr.buildSlice, run_underlying hT, sizeOf, typeInfo, zeroValue, hi, hz, hb, h0]
   rw [hf]
   rfl
 simp only [execOp, hps, Sem.run_bind, Sem.run_pure, Result.andThen_ok, hrun]
 have := World.ownsRow_lit (base := w.heap.size) (e := e) (size := sz) w cells.toArray n (Nat.le_refl _) hmax (by simpa using hlen)
 simpa using this
theorem W.slice {t e n c sz lo hi : Nat} {z : Value} {bytes : Nat} {ao : Option Addr} {cs : List Value} {ol oh : Option Operand} (hE : Elem P e sz bytes z) (hT : P.underlying t = some (.slice e)) (hx : ev l x = some (.slice ao n c)) (hs : Sl w ao n c sz cs)
   (hlo : (ol = none ∧ lo = 0) ∨ ∃ o k, ol = some o ∧ ev l o = some (.int k (lo : Int))) (hhi : (oh = none ∧ hi = n) ∨ ∃ o k, oh = some o ∧ ev l o = some (.int k (hi : Int))) (h1 : lo ≤ hi) (h2 : hi ≤ n) (hN : Nat.blt d N = true)
   (next : ∀ ao' c', Sl w ao' (hi - lo) c' sz ((cs.drop (lo * sz)).take ((hi - lo) * sz)) → (∀ ad, ao' = some ad → ∃ a, ao = some a ∧ ad.block = a.block) → W P N ops Q rest ((d, .slice ao' (hi - lo) c') :: l) w) :
   W P N ops Q (⟨some d, .slice t x ol oh none, ty, pos, aft, none⟩ :: rest) l w := by
 obtain ⟨i, hi', hz, hsz, hby⟩ := hE.out
 have hle := hs.le
 refine W.op (v := .slice (if c = lo then ao else ao.map (·.add (lo * sz))) (hi - lo) (c - lo)) (w' := w) rfl rfl hN (fun a ha => ?_) (next _ _ (hs.sub lo hi h1 h2) ?_)
 have b1 : ∀ (m : Nat) (k : IntKind) (code : BoundsCode) (j : Nat), j ≤ m → (Instr.sliceBound (.int k (j : Int)) m code).run P w = .ok j w := by
   intro m k code j hj
   have : (0 : Int) ≤ (j : Int) ∧ (j : Int) ≤ (m : Int) := by omega
   simp [Instr.sliceBound, asIntOf, this]
 have hd : ∀ (u : TypeDesc), P.underlying t = some u → u = .slice e := fun u hu => by rw [hT] at hu; exact (Option.some.inj hu).symm
 have hrun : (Instr.slice t (.slice ao n c) (ol.map a.eval) (oh.map a.eval) none).run P w = .ok (.slice (if c = lo then ao else ao.map (·.add (lo * sz))) (hi - lo) (c - lo)) w := by
   rcases hlo with ⟨rfl, rfl⟩ | ⟨o1, k1, rfl, hv1⟩ <;> rcases hhi with ⟨rfl, rfl⟩ | ⟨o2, k2, rfl, hv2⟩
   simp [Instr.slice, run_underlying hT, Instr.sliceBounds, sizeOf, typeInfo, hi', hsz]
   simp [Instr.slice, run_underlying hT, Instr.sliceBounds, sizeOf, typeInfo, hi', hsz, ha.ev hv2, b1 c k2 _ hi (by omega)]
   simp [Instr.slice, run_underlying hT, Instr.sliceBounds, sizeOf, typeInfo, hi', hsz, ha.ev hv1, b1 hi k1 _ lo h1]
   simp [Instr.slice, run_underlying hT, Instr.sliceBounds, sizeOf, typeInfo, hi', hsz, ha.ev hv1, ha.ev hv2, b1 c k2 _ hi (by omega), b1 hi k1 _ lo h1]
 simp only [execOp, Instr.sliceAt, ha.ev hx, Sem.run_bind, Sem.run_pure, Result.andThen_ok, run_underlying hT, Option.map_none, hrun]
 intro ad e
 split at e
 exact ⟨ad, e, rfl⟩
 cases ao with
 | none => cases e
 | some a => exact ⟨a, rfl, by obtain rfl := Option.some.inj e; exact add_block _ _⟩
theorem run_indexAt {t e n c sz bytes : Nat} {z : Value} {ad : Addr} {k : IntKind} {i : Int} (hE : Elem P e sz bytes z) (hT : P.underlying t = some (.slice e)) (h0 : 0 ≤ i) (h1 : i < n) :
   (Instr.indexAt t (.slice (some ad) n c) (.int k i)).run P w = .ok (.pointer (some (ad.add (i.toNat * sz)))) w := by
 obtain ⟨info, hi', hz, hsz, hby⟩ := hE.out
 simp [Instr.indexAt, asIntOf, run_underlying hT, h0, h1, sizeOf, typeInfo, hi', hsz]
theorem W.indexS {t e n c sz bytes : Nat} {z : Value} {ao : Option Addr} {cs : List Value} {k : IntKind} {i : Int} (hE : Elem P e sz bytes z) (hT : P.underlying t = some (.slice e)) (hx : ev l x = some (.slice ao n c)) (hs : Sl w ao n c sz cs) (hi : ev l y = some (.int k i)) (h0 : 0 ≤ i ∧ i < n) (hN : Nat.blt d N = true)
   (next : ∀ ad, ao.isSome = true → (∀ a, ao = some a → ad = a.add (i.toNat * sz)) → Cells w ad (cs.drop (i.toNat * sz)) → W P N ops Q rest ((d, .pointer (some ad)) :: l) w) :
   W P N ops Q (⟨some d, .indexAddr t x y, ty, pos, aft, none⟩ :: rest) l w := by
 cases ao with
 | none => have := hs.nil rfl; have := hs.le; omega
 | some a =>
   have hc := hs.at_ a rfl
   refine W.op (v := .pointer (some (a.add (i.toNat * sz)))) (w' := w) rfl rfl hN (fun f ha => ?_) (next _ rfl (fun b e => by cases e; rfl) (hc.drop _))
   simp only [execOp, ha.ev hx, ha.ev hi, Sem.run_bind, Sem.run_pure, Result.andThen_ok, run_indexAt hE hT h0.1 h0.2]
theorem W.load {t : TypeId} {ad : Addr} {v : Value} {dd : TypeDesc} (hx : ev l x = some (.pointer (some ad))) (hT : P.underlying t = some dd) (ha : dd.isRow = false) (hc : w.cell? ad = some v) (hN : Nat.blt d N = true)
   (next : W P N ops Q rest ((d, v) :: l) w) : W P N ops Q (⟨some d, .load t x, ty, pos, aft, none⟩ :: rest) l w := by
 refine W.op rfl rfl hN (fun f hf => ?_) next
 have hagg : (isAgg t).run P w = .ok false w := by
   unfold isAgg
   rw [Sem.run_bind, run_underlying hT w]
   cases dd <;> simp_all
 simp [execOp, hf.ev hx, Instr.loadAt, Instr.sureAddr, loadVar, hagg, Go.load, Sem.run, hc]
theorem W.idx {t e n c bytes d2 : Nat} {z : Value} {ao : Option Addr} {cs : List Value} {k : IntKind} {i : Int} {v : Value} {dd : TypeDesc} {ty2 : TypeId} {pos2 : String} {aft2 : Array Edge}
   (hE : Elem P e 1 bytes z) (hT : P.underlying t = some (.slice e)) (hd : P.underlying e = some dd) (hrow : dd.isRow = false) (hx : ev l x = some (.slice ao n c)) (hs : Sl w ao n c 1 cs) (hi : ev l y = some (.int k i)) (h0 : 0 ≤ i ∧ i < n) (hv : cs[i.toNat]? = some v) (hN : Nat.blt d N = true) (hN2 : Nat.blt d2 N = true)
   (next : ∀ p, W P N ops Q rest ((d2, v) :: (d, p) :: l) w) :
   W P N ops Q (⟨some d, .indexAddr t x y, ty, pos, aft, none⟩ :: ⟨some d2, .load e (.tmp d), ty2, pos2, aft2, none⟩ :: rest) l w := by
 refine W.indexS hE hT hx hs hi h0 hN ?_
 intro ad _ _ hc
 refine W.load (look_self _ _ _) hd hrow ?_ hN2 (next _)
 have := hc 0 v (by rw [List.getElem?_drop, Nat.mul_one, Nat.add_zero]; exact hv)
 rwa [show ad.add 0 = ad from by unfold Addr.add; rw [if_pos rfl]] at this
end
def strV (xs : List UInt8) : Value := .string ⟨xs.toArray⟩
theorem byteV_eq (b : UInt8) : byteV b = .int .u8 ((b.toNat : Nat) : Int) := rfl
theorem bytes_oneCell (xs : List UInt8) : ∀ u ∈ xs.map byteV, u.oneCell' = true := by
 intro u hu
 obtain ⟨_, _, rfl⟩ := List.mem_map.1 hu
 rfl
theorem get_byte {xs : List UInt8} {i : Nat} (h : i < xs.length) : (xs.map byteV)[i]? = some (.int .u8 (((xs[i]'h).toNat : Nat) : Int)) := by
 rw [List.getElem?_map, List.getElem?_eq_getElem h]; rfl
theorem foldl_push (xs : List UInt8) : ∀ (s : ByteArray), (xs.map fun b => ((b.toNat : Nat) : Int)).foldl (fun r n => r.push (UInt8.ofNat n.toNat)) s = ⟨s.data ++ xs.toArray⟩ := by
 induction xs with
 | nil => intro s; simp
 | cons b r ih =>
   intro s
   simp only [List.map_cons, List.foldl_cons, ih]
   simp [ByteArray.push]
def enum : Nat → List Value → List (Nat × Value)
  | _, [] => []
  | k, u :: r => (k, u) :: enum (k + 1) r
theorem cells_one {u : Value} (h : u.oneCell' = true) : u.cells = #[u] := by cases u <;> first | rfl | (simp [Value.oneCell'] at h)
theorem fill_enum : ∀ (us zs : List Value) (k : Nat) (done : List Value), (∀ u ∈ us, u.oneCell' = true) → done.length = k → zs.length = us.length →
   Instr.fill (fun i => some (i * 1, 1)) (done ++ zs).toArray (enum k us) = some (done ++ us).toArray := by
 intro us
 induction us with
 | nil =>
   intro zs k done _ _ h
   have : zs = [] := List.eq_nil_of_length_eq_zero (by simpa using h)
   subst this
   simp [enum, Instr.fill]
 | cons u r ih =>
   intro zs k done h1 h2 h3
   obtain ⟨z, zr, rfl⟩ : ∃ z zr, zs = z :: zr := by
     cases zs with
     | nil => simp at h3
     | cons z zr => exact ⟨z, zr, rfl⟩
   have hu := cells_one (h1 u (by simp))
   have hlen : ¬ (k * 1 + 1 > (done ++ z :: zr).toArray.size) := by simp; omega
   have hset : (done ++ z :: zr).toArray.setIfInBounds (k * 1 + 0) u = ((done ++ [u]) ++ zr).toArray := by
     subst h2
     simp [List.set_append]
   simp only [enum, Instr.fill, hu]
   rw [if_neg (by simp; omega)]
   have := ih zr (k + 1) (done ++ [u]) (fun x hx => h1 x (by simp [hx])) (by simp [h2]) (by simpa using h3)
   show Instr.fill _ ((done ++ z :: zr).toArray.setIfInBounds (k * 1 + 0) u) _ = _
   rw [hset, this, List.append_assoc]
   rfl
def Rep (w : World) (v : Value) (xs : List UInt8) : Prop := ∃ a c, v = .slice a xs.length c ∧ Bs w a c xs
theorem Rep.ext {w w' : World} {v : Value} {xs : List UInt8} (h : Rep w v xs) (g : Ext w w') : Rep w' v xs := by
 obtain ⟨a, c, e, h⟩ := h
 exact ⟨a, c, e, Sl.ext h g⟩
def Bss (w : World) (ao : Option Addr) (c : Nat) (ls : List (List UInt8)) : Prop := ∃ vs : List Value, Sl w ao ls.length c 1 vs ∧ ∀ i (h : i < ls.length), ∃ v, vs[i]? = some v ∧ Rep w v (ls[i]'h)
theorem Bss.ext {w w' : World} {ao : Option Addr} {c : Nat} {ls : List (List UInt8)} (h : Bss w ao c ls) (g : Ext w w') : Bss w' ao c ls := by
 obtain ⟨vs, h1, h2⟩ := h
 refine ⟨vs, h1.ext g, fun i hi => ?_⟩
 obtain ⟨v, h3, h4⟩ := h2 i hi
 exact ⟨v, h3, h4.ext g⟩
section
variable {P : Program} {N : Nat} {Q : Exit → Act → World → Prop} {l : Env} {w : World} {ops : Array Oper} {rest : List Oper} {d : Tmp} {ty : TypeId} {pos : String} {aft : Array Edge}
variable {x y : Operand} {T T' : TypeId}
theorem W.bytesStr {src dst e c : Nat} {ao : Option Addr} {xs : List UInt8} (hs : P.underlying src = some (.slice e)) (he : P.underlying e = some (.int .u8)) (hd : P.underlying dst = some .string) (hx : ev l x = some (.slice ao xs.length c)) (hb : Bs w ao c xs) (hN : Nat.blt d N = true)
   (next : W P N ops Q rest ((d, strV xs) :: l) w) : W P N ops Q (⟨some d, .convert src dst x, ty, pos, aft, none⟩ :: rest) l w := by
 refine W.op (v := strV xs) (w' := w) rfl rfl hN (fun a ha => ?_) next
 have hrun : (convert src dst (.slice ao xs.length c)).run P w = .ok (strV xs) w := by
   rw [run_convert_bytes_string w src dst e _ _ _ hs he hd]
   cases ao with
   | none =>
     have h0 := hb.nil rfl
     have h1 := hb.le
     have : xs = [] := List.eq_nil_of_length_eq_zero (by omega)
     subst this
     rfl
   | some ad =>
     have hc := hb.at_ ad rfl
     have hl : (loadCells ad (xs.map byteV).length).run P w = .ok (xs.map byteV).toArray w := run_loadCells_list w ad (xs.map byteV) hc
     have e1 : xs.map byteV = (xs.map fun b => ((b.toNat : Nat) : Int)).map (Value.int .u8) := by rw [List.map_map]; rfl
     rw [List.length_map, e1] at hl
     rw [run_bytesToString w ad xs.length c _ hl, foldl_push]
     show Result.ok (Value.string ⟨(#[] : Array UInt8) ++ xs.toArray⟩) w = _
     rw [Array.empty_append]
     rfl
 simp only [execOp, ha.ev hx, Sem.run_bind, hrun, Result.andThen_ok, Sem.run_pure]
theorem strV_beq (a b : List UInt8) : ((⟨a.toArray⟩ : ByteArray).toList == (⟨b.toArray⟩ : ByteArray).toList) = decide (a = b) := by
 rw [ByteArray.toList_mk, ByteArray.toList_mk, Bool.eq_iff_iff]; simp
theorem W.eqlStr {a b : List UInt8} (hx : ev l x = some (strV a)) (hy : ev l y = some (strV b)) (hN : Nat.blt d N = true)
   (next : W P N ops Q rest ((d, .bool (decide (a = b))) :: l) w) : W P N ops Q (⟨some d, .binOp .eql T x y T', ty, pos, aft, none⟩ :: rest) l w :=
 W.op rfl rfl hN (fun f ha => by
   have he : (eqGuard .eql T x y (strV a) (strV b)) = pure () := by unfold eqGuard; split <;> rfl
   simp only [execOp, ha.ev hx, ha.ev hy, he, Sem.run_bind, Sem.run_pure, Result.andThen_ok]
   simp only [strV, binOp_string_eql, strV_beq, Sem.run_pure, Result.andThen_ok]) next
theorem W.neqStr {a b : List UInt8} (hx : ev l x = some (strV a)) (hy : ev l y = some (strV b)) (hN : Nat.blt d N = true)
   (next : W P N ops Q rest ((d, .bool (decide (¬ a = b))) :: l) w) : W P N ops Q (⟨some d, .binOp .neq T x y T', ty, pos, aft, none⟩ :: rest) l w :=
 W.op rfl rfl hN (fun f ha => by
   have he : (eqGuard .neq T x y (strV a) (strV b)) = pure () := by unfold eqGuard; split <;> rfl
   simp only [execOp, ha.ev hx, ha.ev hy, he, Sem.run_bind, Sem.run_pure, Result.andThen_ok]
   simp only [strV, binOp_string_neq, strV_beq, Sem.run_pure, Result.andThen_ok]
   simp) next
theorem W.appendB {e base c : Nat} {z v : Value} {ao : Option Addr} {xs ys : List UInt8} (hE : Elem P e 1 1 z) (hT : P.underlying T = some (.slice e))
   (hx : ev l x = some v) (hy : ev l y = some (.slice ao ys.length c)) (ho : Ow w base e v xs) (hs : Bs w ao c ys) (hlen : xs.length + ys.length ≤ 70368744177664) (hbase : base ≤ w.heap.size) (hN : Nat.blt d N = true)
   (next : ∀ v' w', Ow w' base e v' (xs ++ ys) → w.grownBy w' v.ownBlock → (v'.ownBlock = v.ownBlock ∨ ∃ k, v'.ownBlock = some k ∧ w.heap.size ≤ k) → W P N ops Q rest ((d, v') :: l) w') :
   W P N ops Q (⟨some d, .call ⟨.builtin .append, #[x, y], #[T, T]⟩, ty, pos, aft, none⟩ :: rest) l w :=
 W.append hE hT hx hy ho hs (bytes_oneCell ys) (by omega) (by omega) hbase hN fun v' w' h1 h2 h3 => next v' w' (by
   show w'.ownsRow base e 1 v' (xs ++ ys).length ((xs ++ ys).map byteV)
   rw [List.length_append, List.map_append]; exact h1) h2 h3
theorem W.litB {t e : Nat} {z : Value} {ps : List (Nat × Operand)} {vs : List (Nat × Value)} (bs : List UInt8) (hE : Elem P e 1 1 z) (hT : P.underlying t = some (.slice e)) (hp : evps l ps = some vs)
   (hv : vs = enum 0 (bs.map byteV)) (hn : Nat.ble bs.length 1000 = true) (h0 : Nat.blt 0 bs.length = true) (hN : Nat.blt d N = true)
   (next : ∀ g w', g = w.heap.size → Ext w w' → Ow w' w.heap.size e (.slice (some ⟨g, 0, none⟩) bs.length bs.length) bs → Bs w' (some ⟨g, 0, none⟩) bs.length bs → W P N ops Q rest ((d, .slice (some ⟨g, 0, none⟩) bs.length bs.length) :: l) w') :
   W P N ops Q (⟨some d, .buildSlice t bs.length ps.toArray, ty, pos, aft, none⟩ :: rest) l w := by
 have hn := Nat.le_of_ble_eq_true hn
 have h0 := lt_of_blt h0
 subst hv
 have hf : Instr.fill (fun i => some (i * 1, 1)) ((Array.range (bs.length * 1)).map (z.cells[· % z.cells.size]!)) (enum 0 (bs.map byteV)) = some (bs.map byteV).toArray := by
   obtain ⟨arr, harr⟩ : ∃ arr, arr = (Array.range (bs.length * 1)).map (z.cells[· % z.cells.size]!) := ⟨_, rfl⟩
   have hsz : arr.size = bs.length := by rw [harr]; simp
   rw [← harr]
   have := fill_enum (bs.map byteV) arr.toList 0 [] (bytes_oneCell bs) rfl (by simp [hsz])
   simpa using this
 refine W.buildSlice hE hT hp hf (by omega) (by simp) (by omega) hN fun g w' hg hx ho => ?_
 have hB : Bs w' (some ⟨g, 0, none⟩) bs.length bs := by
   obtain ⟨ao, c, he, hs, _⟩ := ownsRow_form ho
   injection he with h1 h2 h3
   subst h1; subst h3
   exact hs
 exact next g w' hg hx ho hB
theorem W.litV {t e bytes : Nat} {z : Value} {ps : List (Nat × Operand)} {vs : List (Nat × Value)} (cells : List Value) (hE : Elem P e 1 bytes z) (hT : P.underlying t = some (.slice e)) (hp : evps l ps = some vs)
   (hv : vs = enum 0 cells) (h1 : ∀ u ∈ cells, u.oneCell' = true) (hn : Nat.ble cells.length 1000 = true) (h0 : Nat.blt 0 cells.length = true) (hN : Nat.blt d N = true)
   (next : ∀ g w', g = w.heap.size → Ext w w' → w'.ownsRow w.heap.size e 1 (.slice (some ⟨g, 0, none⟩) cells.length cells.length) cells.length cells → Sl w' (some ⟨g, 0, none⟩) cells.length cells.length 1 cells → W P N ops Q rest ((d, .slice (some ⟨g, 0, none⟩) cells.length cells.length) :: l) w') :
   W P N ops Q (⟨some d, .buildSlice t cells.length ps.toArray, ty, pos, aft, none⟩ :: rest) l w := by
 have hn := Nat.le_of_ble_eq_true hn
 have h0 := lt_of_blt h0
 subst hv
 have hf : Instr.fill (fun i => some (i * 1, 1)) ((Array.range (cells.length * 1)).map (z.cells[· % z.cells.size]!)) (enum 0 cells) = some cells.toArray := by
   obtain ⟨arr, harr⟩ : ∃ arr, arr = (Array.range (cells.length * 1)).map (z.cells[· % z.cells.size]!) := ⟨_, rfl⟩
   have hsz : arr.size = cells.length := by rw [harr]; simp
   rw [← harr]
   have := fill_enum cells arr.toList 0 [] h1 rfl (by simp [hsz])
   simpa using this
 refine W.buildSlice hE hT hp hf (by omega) (by simp) (by omega) hN fun g w' hg hx ho => ?_
 obtain ⟨ao, c, he, hs, _⟩ := ownsRow_form ho
 injection he with e1 e2 e3
 subst e1; subst e3
 exact next g w' hg hx ho hs
def u64V (n : Nat) : Value := .int .u64 (n : Int)
theorem u64_oneCell (l : List Nat) : ∀ u ∈ l.map u64V, u.oneCell' = true := by
 intro u hu
 obtain ⟨_, _, rfl⟩ := List.mem_map.1 hu
 rfl
abbrev Us (w : World) (ao : Option Addr) (c : Nat) (l : List Nat) : Prop := Sl w ao l.length c 1 (l.map u64V)
theorem get_u64 {l : List Nat} {i : Nat} (h : i < l.length) : (l.map u64V)[i]? = some (.int .u64 ((l[i]'h : Nat) : Int)) := by
 rw [List.getElem?_map, List.getElem?_eq_getElem h]; rfl
theorem W.appendU {e base c : Nat} {z v : Value} {ao : Option Addr} {xs ys : List Nat} (hE : Elem P e 1 8 z) (hT : P.underlying T = some (.slice e))
   (hx : ev l x = some v) (hy : ev l y = some (.slice ao ys.length c)) (ho : w.ownsRow base e 1 v xs.length (xs.map u64V)) (hs : Us w ao c ys) (hlen : xs.length + ys.length ≤ 8796093022208) (hbase : base ≤ w.heap.size) (hN : Nat.blt d N = true)
   (next : ∀ v' w', w'.ownsRow base e 1 v' (xs ++ ys).length ((xs ++ ys).map u64V) → w.grownBy w' v.ownBlock → (v'.ownBlock = v.ownBlock ∨ ∃ k, v'.ownBlock = some k ∧ w.heap.size ≤ k) → W P N ops Q rest ((d, v') :: l) w') :
   W P N ops Q (⟨some d, .call ⟨.builtin .append, #[x, y], #[T, T]⟩, ty, pos, aft, none⟩ :: rest) l w :=
 W.append hE hT hx hy ho hs (u64_oneCell ys) (by omega) (by omega) hbase hN fun v' w' h1 h2 h3 => next v' w' (by
   rw [List.length_append, List.map_append]; exact h1) h2 h3
end
end Go.Proofs.YthiijdbiikljpaaGreat.KW
namespace Go.Proofs.YthiijdbiikljpaaGreat.KW
open Go
set_option linter.unusedVariables false
theorem andM_mask (j M m n : Nat) (hn : n = 2 ^ j - 1) (h : 2 ^ j ≤ M) : landM M m n = m % 2 ^ j := by
 subst hn
 rw [landM, Nat.and_two_pow_sub_one_eq_mod, Nat.mod_eq_of_lt]
 exact Nat.lt_of_lt_of_le (Nat.mod_lt _ (Nat.two_pow_pos j)) h
theorem and61 (m : Nat) : landM 18446744073709551616 m 2305843009213693951 = m % 2305843009213693952 := andM_mask 61 _ _ _ (by decide) (by decide)
theorem and32_64 (m : Nat) : landM 18446744073709551616 m 4294967295 = m % 4294967296 := andM_mask 32 _ _ _ (by decide) (by decide)
theorem and1_64 (m : Nat) : landM 18446744073709551616 m 1 = m % 2 := andM_mask 1 _ _ _ (by decide) (by decide)
theorem shr61 (m : Nat) : shrM 64 m 61 = m / 2305843009213693952 := by simp [shrM]
theorem shr32_64 (m : Nat) : shrM 64 m 32 = m / 4294967296 := by simp [shrM]
theorem shr1_64 (m : Nat) : shrM 64 m 1 = m / 2 := by simp [shrM]
theorem add64 {m n : Nat} (h : m + n < 18446744073709551616) : addM 18446744073709551616 m n = m + n := Nat.mod_eq_of_lt h
theorem mul64 {m n : Nat} (h : m * n < 18446744073709551616) : mulM 18446744073709551616 m n = m * n := Nat.mod_eq_of_lt h
theorem sub64 {m n : Nat} (h : n ≤ m) (hm : m < 18446744073709551616) : subM 18446744073709551616 m n = m - n := by
 unfold subM; omega
theorem addM_lt {M : Nat} (hM : 0 < M) (m n : Nat) : addM M m n < M := Nat.mod_lt _ hM
theorem shl3 {m : Nat} (h : m < 2305843009213693952) : shlM 18446744073709551616 64 m 3 = m * 8 := by
 unfold shlM; simp only [show min 3 64 = 3 from rfl]; omega
theorem hi_eq (x y : Nat) (hx : x < 18446744073709551616) (hy : y < 18446744073709551616) :
   addM 18446744073709551616 (addM 18446744073709551616 (mulM 18446744073709551616 (shrM 64 x 32) (shrM 64 y 32)) (shrM 64 (addM 18446744073709551616 (mulM 18446744073709551616 (shrM 64 x 32) (landM 18446744073709551616 y 4294967295)) (shrM 64 (mulM 18446744073709551616 (landM 18446744073709551616 x 4294967295) (landM 18446744073709551616 y 4294967295)) 32)) 32))
     (shrM 64 (addM 18446744073709551616 (landM 18446744073709551616 (addM 18446744073709551616 (mulM 18446744073709551616 (shrM 64 x 32) (landM 18446744073709551616 y 4294967295)) (shrM 64 (mulM 18446744073709551616 (landM 18446744073709551616 x 4294967295) (landM 18446744073709551616 y 4294967295)) 32)) 4294967295) (mulM 18446744073709551616 (landM 18446744073709551616 x 4294967295) (shrM 64 y 32))) 32)
     = x * y / 18446744073709551616 := by
 obtain ⟨h1, h2, h3, h4⟩ := Lib.mul64_hi x y hx hy
 simp only [and32_64, shr32_64]
 have ha := Lib.half_mul_le (a := x / 4294967296) (b := y / 4294967296) (by omega) (by omega)
 have hb := Lib.half_mul_le (a := x / 4294967296) (b := y % 4294967296) (by omega) (by omega)
 have hc := Lib.half_mul_le (a := x % 4294967296) (b := y / 4294967296) (by omega) (by omega)
 have hxy : x * y / 18446744073709551616 < 18446744073709551616 := by
   rw [Nat.div_lt_iff_lt_mul (by decide)]
   exact Nat.mul_lt_mul_of_lt_of_le hx (Nat.le_of_lt hy) (by decide)
 rw [← h4] at hxy ⊢
 rw [mul64 (by omega), mul64 (by omega), mul64 (by omega), mul64 (by omega), add64 h2, add64 h3, add64 (m := x / 4294967296 * (y / 4294967296)) (by omega), add64 (by omega)]
theorem or_low (a b i : Nat) (h : b < 2 ^ i) : a * 2 ^ i ||| b = a * 2 ^ i + b := by
 rw [Nat.mul_comm, Nat.two_pow_add_eq_or_of_lt h]
theorem wide_eq (a b : Nat) (ha : a < 18446744073709551616) (hb : b < 18446744073709551616) (x y z mid : Nat)
   (hx : x = (a % 4294967296) * (b % 4294967296)) (hy : y = (a / 4294967296) * (b % 4294967296)) (hz : z = (a % 4294967296) * (b / 4294967296))
   (hmid : mid = x / 4294967296 + y % 4294967296 + z % 4294967296) :
   (a / 4294967296) * (b / 4294967296) + y / 4294967296 + z / 4294967296 + mid / 4294967296 = a * b / 18446744073709551616 ∧
   iorM 18446744073709551616 (shlM 18446744073709551616 64 mid 32) (x % 4294967296) = a * b % 18446744073709551616 ∧
   x ≤ 18446744065119617025 ∧ y ≤ 18446744065119617025 ∧ z ≤ 18446744065119617025 ∧ (a / 4294967296) * (b / 4294967296) ≤ 18446744065119617025 := by
 have e : a * b = (a / 4294967296) * (b / 4294967296) * (4294967296 * 4294967296) + ((a / 4294967296) * (b % 4294967296) + (a % 4294967296) * (b / 4294967296)) * 4294967296 + (a % 4294967296) * (b % 4294967296) := by
   rw [← Lib.split_mul, Nat.div_add_mod' a 4294967296, Nat.div_add_mod' b 4294967296]
 have h0 := Lib.half_mul_le (a := a / 4294967296) (b := b / 4294967296) (by omega) (by omega)
 have h1 := Lib.half_mul_le (a := a / 4294967296) (b := b % 4294967296) (by omega) (by omega)
 have h2 := Lib.half_mul_le (a := a % 4294967296) (b := b / 4294967296) (by omega) (by omega)
 have h3 := Lib.half_mul_le (a := a % 4294967296) (b := b % 4294967296) (by omega) (by omega)
 rw [← hx, ← hy, ← hz] at e
 rw [← hx] at h3
 rw [← hy] at h1
 rw [← hz] at h2
 generalize (a / 4294967296) * (b / 4294967296) = q at *
 refine ⟨by omega, ?_, h3, h1, h2, h0⟩
 have hs : shlM 18446744073709551616 64 mid 32 = (mid % 4294967296) * 4294967296 := by
   unfold shlM; simp only [show min 32 64 = 32 from rfl]; omega
 rw [hs, iorM, or_low (mid % 4294967296) (x % 4294967296) 32 (by omega)]
 omega
theorem red_eq (x : Nat) (hx : x < 18446744073709551616) :
   (2305843009213693951 ≤ addM 18446744073709551616 (shrM 64 x 61) (landM 18446744073709551616 x 2305843009213693951) → subM 18446744073709551616 (addM 18446744073709551616 (shrM 64 x 61) (landM 18446744073709551616 x 2305843009213693951)) 2305843009213693951 = x % 2305843009213693951) ∧
   (¬ 2305843009213693951 ≤ addM 18446744073709551616 (shrM 64 x 61) (landM 18446744073709551616 x 2305843009213693951) → addM 18446744073709551616 (shrM 64 x 61) (landM 18446744073709551616 x 2305843009213693951) = x % 2305843009213693951) := by
 rw [and61, shr61, add64 (by omega)]
 refine ⟨fun h => ?_, fun h => ?_⟩
 rw [sub64 h (by omega)]; omega
 omega
theorem mod_lt_P (a : Nat) : a % 2305843009213693951 < 2305843009213693951 := Nat.mod_lt _ (by decide)
theorem prod_fold (a b : Nat) (ha : a < 2305843009213693951) (hb : b < 2305843009213693951) :
   a * b / 18446744073709551616 < 288230376151711744 ∧
   (a * b / 18446744073709551616) * 8 + (a * b % 18446744073709551616) / 2305843009213693952 + (a * b % 18446744073709551616) % 2305843009213693952 < 18446744073709551616 ∧
   ((a * b / 18446744073709551616) * 8 + (a * b % 18446744073709551616) / 2305843009213693952 + (a * b % 18446744073709551616) % 2305843009213693952) % 2305843009213693951 = a * b % 2305843009213693951 := by
 have h : a * b ≤ 2305843009213693950 * 2305843009213693950 := Nat.mul_le_mul (by omega) (by omega)
 generalize a * b = p at *
 refine ⟨by omega, by omega, by omega⟩
theorem mulP_prog (a b : Nat) (ha : a < 2305843009213693951) (hb : b < 2305843009213693951) :
   addM 18446744073709551616 (addM 18446744073709551616 (shlM 18446744073709551616 64 (a * b / 18446744073709551616) 3) (shrM 64 (a * b % 18446744073709551616) 61)) (landM 18446744073709551616 (a * b % 18446744073709551616) 2305843009213693951) % 2305843009213693951 = a * b % 2305843009213693951 := by
 obtain ⟨h1, h2, h3⟩ := prod_fold a b ha hb
 rw [and61, shr61, shl3 (by omega), add64 (m := a * b / 18446744073709551616 * 8) (by omega), add64 (by omega)]
 exact h3
theorem mulP_ref (a b : Nat) (ha : a < 2305843009213693951) (hb : b < 2305843009213693951) :
   addM 18446744073709551616 (iorM 18446744073709551616 (shlM 18446744073709551616 64 (a * b / 18446744073709551616) 3) (shrM 64 (a * b % 18446744073709551616) 61)) (landM 18446744073709551616 (a * b % 18446744073709551616) 2305843009213693951) % 2305843009213693951 = a * b % 2305843009213693951 := by
 obtain ⟨h1, h2, h3⟩ := prod_fold a b ha hb
 have ho : iorM 18446744073709551616 (a * b / 18446744073709551616 * 8) ((a * b % 18446744073709551616) / 2305843009213693952) = a * b / 18446744073709551616 * 8 + (a * b % 18446744073709551616) / 2305843009213693952 := by
   rw [iorM, show a * b / 18446744073709551616 * 8 = a * b / 18446744073709551616 * 2 ^ 3 from rfl, or_low _ _ 3 (by omega)]
   omega
 rw [and61, shr61, shl3 (by omega), ho, add64 (by omega)]
 exact h3
end Go.Proofs.YthiijdbiikljpaaGreat.KW
namespace Go.Proofs.YthiijdbiikljpaaGreat.Words
open Go Go.RowKit Go.Proofs.YthiijdbiikljpaaGreat.KW
set_option linter.unusedVariables false
set_option linter.unusedSimpArgs false
set_option maxRecDepth 100000
theorem E8 : Elem Tryz.prog 5 1 1 (.int .u8 0) := Elem.of (by kernel_rfl) rfl rfl
theorem X8 : Elem Tryz.prog 5 1 1 (.int .u8 0) := E8
theorem X32 : Elem Tryz.prog 101 1 4 (.int .u32 0) := Elem.of (by kernel_rfl) rfl rfl
theorem X64 : Elem Tryz.prog 83 1 8 (.int .u64 0) := Elem.of (by kernel_rfl) rfl rfl
theorem XI : Elem Tryz.prog 3 1 8 (.int .i64 0) := Elem.of (by kernel_rfl) rfl rfl
def u32V (n : Nat) : Value := .int .u32 (n : Int)
theorem u32_oneCell (l : List Nat) : ∀ u ∈ l.map u32V, u.oneCell' = true := by
 intro u hu
 obtain ⟨_, _, rfl⟩ := List.mem_map.1 hu
 rfl
def be32 (x : Nat) : List UInt8 := [UInt8.ofNat (x / 16777216), UInt8.ofNat (x / 65536), UInt8.ofNat (x / 256), UInt8.ofNat x]
def be64 (x : Nat) : List UInt8 := be32 (x / 4294967296 % 4294967296) ++ be32 (x % 4294967296)
def beNat (l : List UInt8) : Nat := l.foldl (fun x b => x * 256 + b.toNat) 0
theorem be32_length (x : Nat) : (be32 x).length = 4 := rfl
theorem be64_length (x : Nat) : (be64 x).length = 8 := rfl
theorem beNat_snoc (l : List UInt8) (b : UInt8) : beNat (l ++ [b]) = beNat l * 256 + b.toNat := by simp [beNat]
theorem beNat_lt : ∀ (l : List UInt8) (k : Nat), l.length = k → beNat l < 256 ^ k := by
 intro l k
 induction k generalizing l with
 | zero => intro h; have : l = [] := List.eq_nil_of_length_eq_zero h; subst this; decide
 | succ k ih =>
   intro h
   have hne : l ≠ [] := fun e => by subst e; simp at h
   obtain ⟨r, b, rfl⟩ : ∃ r b, l = r ++ [b] := ⟨l.dropLast, l.getLast hne, (List.dropLast_concat_getLast hne).symm⟩
   have h1 := ih r (by simpa using h)
   have h2 := UInt8.toNat_lt b
   rw [beNat_snoc, Nat.pow_succ]
   omega
theorem ofNat_toNat (n : Nat) : (UInt8.ofNat n).toNat = n % 256 := by simp
theorem byteV_ofNat (n : Nat) : byteV (UInt8.ofNat n) = .int .u8 ((n % 256 : Nat) : Int) := by unfold byteV; rw [ofNat_toNat]
theorem beNat_be32 (x : Nat) (h : x < 4294967296) : beNat (be32 x) = x := by
 simp only [beNat, be32, List.foldl_cons, List.foldl_nil, ofNat_toNat]
 omega
theorem beNat_be64 (x : Nat) (h : x < 18446744073709551616) : beNat (be64 x) = x := by
 simp only [beNat, be64, be32, List.foldl_cons, List.foldl_nil, List.cons_append, List.nil_append, ofNat_toNat]
 omega
def getE (xs : List UInt8) (at_ : Int) (n : Nat) : Int := if at_ < 0 ∨ (xs.length : Int) < at_ then 1 else if (xs.length : Int) - at_ < n then 4 else 0
def getV (xs : List UInt8) (at_ : Int) (n : Nat) : Nat := if getE xs at_ n = 0 then beNat ((xs.drop at_.toNat).take n) else 0
theorem getE_0 {xs : List UInt8} {at_ : Int} {n : Nat} : getE xs at_ n = 0 ↔ 0 ≤ at_ ∧ at_ + n ≤ xs.length := by
 unfold getE
 split
 rename_i h; constructor
 intro c; omega
 intro c; omega
 rename_i h
 split
 constructor
 intro c; omega
 intro c; omega
 constructor
 intro c; omega
 intro c; rfl
theorem getV_lt (xs : List UInt8) (at_ : Int) (n : Nat) : getV xs at_ n < 256 ^ n := by
 unfold getV
 split
 rename_i h
 rw [getE_0] at h
 exact beNat_lt _ n (by rw [List.length_take, List.length_drop]; omega)
 exact Nat.pow_pos (by decide)
theorem get_step {xs : List UInt8} {at_ i n : Nat} (h : at_ + i < xs.length) (hi : i < n) (hn : n ≤ 8) :
   iorM 18446744073709551616 (shlM 18446744073709551616 64 (beNat ((xs.drop at_).take i)) 8) ((xs[at_ + i]'h).toNat) = beNat ((xs.drop at_).take (i + 1)) := by
 have hl : ((xs.drop at_).take i).length = i := by rw [List.length_take, List.length_drop]; omega
 have h1 := beNat_lt _ i hl
 have h2 : (256 : Nat) ^ i ≤ 256 ^ 7 := Nat.pow_le_pow_right (by decide) (by omega)
 have h3 := UInt8.toNat_lt (xs[at_ + i]'h)
 have e7 : (256 : Nat) ^ 7 = 72057594037927936 := by decide
 have e : (xs.drop at_).take (i + 1) = (xs.drop at_).take i ++ [xs[at_ + i]'h] := by
   rw [List.take_succ_eq_append_getElem (by rw [List.length_drop]; omega), List.getElem_drop]
 rw [e, beNat_snoc]
 generalize beNat ((xs.drop at_).take i) = q at *
 have hs : shlM 18446744073709551616 64 q 8 = q * 2 ^ 8 := by
   unfold shlM; rw [show min 8 64 = 8 from rfl, Nat.mod_eq_of_lt]; omega
 rw [hs, iorM, or_low _ _ 8 (by omega), Nat.mod_eq_of_lt (by omega)]
theorem get_ok (ao : Option Addr) (c : Nat) (xs : List UInt8) (at_ : Int) (n : Nat) (w : World) (hS : Bs w ao c xs) (hlen : xs.length ≤ 1099511627776) (hat : -9223372036854775808 ≤ at_ ∧ at_ ≤ 9223372036854775807) (hn : n ≤ 8) :
   Ct Tryz.prog 88 #[.slice ao xs.length c, .int .i64 at_, .int .i64 (n : Int)] w (fun v w' => v = .tuple #[.int .u64 ((getV xs at_ n : Nat) : Int), .int .i64 (getE xs at_ n)] ∧ w = w') := by
 refine Ct.enter [(0, .slice ao xs.length c), (1, .int .i64 at_), (2, .int .i64 (n : Int))] Tryz.func88 rfl rfl rfl rfl ?_
 refine C.seq (C.region (W.assign rfl rfl (W.assign rfl rfl (W.nil (At.thenCode (C.seq (C.seq (C.region (W.move rfl rfl (W.lssI rfl rfl rfl (W.move rfl rfl ?_)))))))))))
 refine W.splitD (fun g13 => ?_) (fun g13 => ?_)
 refine W.skips rfl rfl rfl rfl rfl rfl (W.skips rfl rfl rfl rfl rfl rfl (W.skips rfl rfl rfl rfl rfl rfl (W.skips rfl rfl rfl rfl rfl rfl (W.pickT rfl rfl rfl (W.nil (At.thenCode ?_))))))
 refine C.condT rfl ?_
 refine C.seq (C.region (W.assign rfl rfl (W.assign rfl rfl (W.nil (At.thenCode (C.ret (At.thenRet ?_)))))))
 refine At.ret2 Tryz.results88 rfl rfl ?_
 have e : getE xs at_ n = 1 := by unfold getE; rw [if_pos (Or.inl g13)]
 exact ⟨by rw [getV, if_neg (by omega), e]; rfl, rfl⟩
 refine W.wants rfl rfl rfl rfl (W.move rfl rfl (W.wants rfl rfl rfl rfl (W.move rfl rfl (W.wants rfl rfl rfl rfl (W.lenS rfl Tryz.underlying22 rfl (W.wants rfl rfl rfl rfl (W.gtrI rfl rfl rfl (W.pickF rfl rfl rfl (W.nil (At.thenCode ?_))))))))))
 refine C.condD rfl (fun c18 => ?_) (fun c18 => ?_)
 refine C.seq (C.region (W.assign rfl rfl (W.assign rfl rfl (W.nil (At.thenCode (C.ret (At.thenRet ?_)))))))
 refine At.ret2 Tryz.results88 rfl rfl ?_
 have e : getE xs at_ n = 1 := by unfold getE; rw [if_pos (Or.inr c18)]
 exact ⟨by rw [getV, if_neg (by omega), e]; rfl, rfl⟩
 refine C.skip (At.thenCode (C.seq (C.seq (C.region (W.move rfl rfl (W.lenS rfl Tryz.underlying22 rfl (W.move rfl rfl ?_)))))))
 refine W.subI rfl rfl (by omega) rfl ?_
 refine W.move rfl rfl (W.lssI rfl rfl rfl (W.nil (At.thenCode ?_)))
 refine C.condD rfl (fun c24 => ?_) (fun c24 => ?_)
 refine C.seq (C.region (W.assign rfl rfl (W.assign rfl rfl (W.nil (At.thenCode (C.ret (At.thenRet ?_)))))))
 refine At.ret2 Tryz.results88 rfl rfl ?_
 have e : getE xs at_ n = 4 := by unfold getE; rw [if_neg (by omega), if_pos c24]
 exact ⟨by rw [getV, if_neg (by omega), e]; rfl, rfl⟩
 refine C.skip (At.thenCode (C.seq (C.region (W.assign rfl rfl (W.nil (At.thenCode (C.seq (C.seq (C.region (W.move rfl rfl (W.move rfl rfl ?_)))))))))))
 refine W.move rfl rfl (W.move rfl rfl ?_)
 refine W.addI rfl rfl (by omega) rfl ?_
 have e0 : getE xs at_ n = 0 := getE_0.2 (by omega)
 have h1 : (at_.toNat : Int) = at_ := by omega
 refine W.slice (lo := at_.toNat) (hi := at_.toNat + n) E8 Tryz.underlying22 rfl hS (.inr ⟨_, _, rfl, look_eq rfl (by rw [h1])⟩) (.inr ⟨_, _, rfl, look_eq rfl (by rw [show at_ + (n : Int) = ((at_.toNat + n : Nat) : Int) by omega])⟩) (by omega) (by omega) rfl ?_
 intro ao2 c2 hS2 _
 rw [show at_.toNat + n - at_.toNat = n by omega, Nat.mul_one, Nat.mul_one, ← List.map_drop, ← List.map_take] at hS2
 rw [show at_.toNat + n - at_.toNat = n by omega]
 refine W.lenS rfl Tryz.underlying22 rfl (W.move rfl rfl (W.nil (At.thenCode (C.block ?_))))
 refine C.loop (X := Nat) (fun x_ => [(8, .int .u64 ((beNat ((xs.drop at_.toNat).take x_) : Nat) : Int)), (30, .slice ao2 n c2), (31, .int .i64 (n : Int)), (32, .int .i64 (x_ : Int))]) (fun x_ w1 => w = w1 ∧ x_ ≤ n) (fun x_ => n - x_) (0) (sc rfl (sc rfl (sc rfl (sc rfl (Sub.nil))))) ?start1 ?_
 case start1 =>
   show w = _ ∧ (0) ≤ n
   exact ⟨rfl, by omega⟩
 rintro i w1 hI_
 replace hI_ : w = w1 ∧ i ≤ n := hI_
 obtain ⟨rfl, hi⟩ := hI_
 refine C.weaken (l' := [(8, .int .u64 ((beNat ((xs.drop at_.toNat).take i) : Nat) : Int)), (30, .slice ao2 n c2), (31, .int .i64 (n : Int)), (32, .int .i64 (i : Int))]) (sc rfl (sc rfl (sc rfl (sc rfl (Sub.nil))))) ?_
 refine C.seq (C.region (W.lssI rfl rfl rfl (W.nil (At.thenCode (C.seq ?_)))))
 refine C.condD rfl (fun c33 => ?_) (fun c33 => ?_)
 refine C.skip (At.thenCode (C.seq (C.block (C.seq (C.region ?_)))))
 have hlt : at_.toNat + i < xs.length := by omega
 refine W.idx (v := .int .u8 ((((xs[at_.toNat + i]'hlt).toNat : Nat)) : Int)) E8 Tryz.underlying22 Tryz.underlying5 rfl rfl hS2 rfl (by omega) ?_ rfl rfl ?_
 rw [Int.toNat_natCast, List.map_take, List.getElem?_take, if_pos (by omega), List.map_drop, List.getElem?_drop]
 exact get_byte hlt
 intro p34
 have hb := UInt8.toNat_lt (xs[at_.toNat + i]'hlt)
 -- read with the address
 refine W.assign rfl rfl (W.nil (At.thenCode (C.region (W.move rfl rfl ?_))))
 refine W.shlU (M := 18446744073709551616) (B := 64) (s := 8) rfl rfl rfl rfl rfl rfl ?_
 refine W.move rfl rfl ?_
 refine W.convU (M := 18446744073709551616) rfl Tryz.underlying5 Tryz.underlying83 rfl rfl (by omega) rfl ?_
 refine W.orU (M := 18446744073709551616) rfl rfl rfl rfl rfl ?_
 refine W.assign rfl rfl (W.nil (At.blockNormal (At.thenCode (C.region ?_))))
 refine W.addI rfl rfl (by omega) rfl ?_
 refine W.move rfl rfl (W.nil ?_)
 refine At.thenRound (i + 1) (sc (look_eq rfl (by rw [get_step hlt (by omega) hn])) (sc rfl (sc rfl (sc (look_eq rfl (by rw [show (i : Int) + 1 = ((i + 1 : Nat) : Int) by omega])) (Sub.nil))))) (show w = _ ∧ (i + 1) ≤ n from ?_) (show n - (i + 1) < n - i from ?_)
 exact ⟨rfl, by omega⟩
 omega
 refine C.exit (At.thenExit (At.thenExit (At.blockSelf (At.thenCode (C.seq (C.region (W.move rfl rfl (W.assign rfl rfl (W.assign rfl rfl (W.nil (At.thenCode ?_)))))))))))
 refine C.ret ?_
 refine At.ret2 Tryz.results88 rfl rfl ?_
 obtain rfl : i = n := by omega
 exact ⟨by rw [getV, if_pos e0, e0], rfl⟩
theorem Get32_ok (ao : Option Addr) (c : Nat) (xs : List UInt8) (at_ : Int) (w : World) (hS : Bs w ao c xs) (hlen : xs.length ≤ 1099511627776) (hat : -9223372036854775808 ≤ at_ ∧ at_ ≤ 9223372036854775807) :
   Ct Tryz.prog 55 #[.slice ao xs.length c, .int .i64 at_] w (fun v w' => v = .tuple #[.int .u32 ((getV xs at_ 4 : Nat) : Int), .int .i64 (getE xs at_ 4)] ∧ w = w') := by
 refine Ct.enter [(0, .slice ao xs.length c), (1, .int .i64 at_)] Tryz.func55 rfl rfl rfl rfl ?_
 have hv := getV_lt xs at_ 4
 refine C.seq (C.region (W.assign rfl rfl (W.assign rfl rfl (W.nil (At.thenCode (C.seq (C.region (W.move rfl rfl (W.move rfl rfl ?_)))))))))
 refine W.call Tryz.call88 rfl (get_ok _ _ _ _ 4 _ hS hlen hat (by decide)) rfl ?_
 rintro v w' ⟨rfl, rfl⟩
 refine W.move rfl rfl (W.extract rfl rfl rfl (W.extract rfl rfl rfl (W.assign rfl rfl (W.assign rfl rfl (W.nil (At.thenCode (C.seq (C.region (W.move rfl rfl ?_)))))))))
 refine W.convU (M := 4294967296) rfl Tryz.underlying83 Tryz.underlying101 rfl rfl hv rfl ?_
 refine W.move rfl rfl (W.assign rfl rfl (W.assign rfl rfl (W.nil (At.thenCode (C.ret ?_)))))
 refine At.ret2 Tryz.results55 rfl rfl ?_
 exact ⟨rfl, rfl⟩
theorem Get64_ok (ao : Option Addr) (c : Nat) (xs : List UInt8) (at_ : Int) (w : World) (hS : Bs w ao c xs) (hlen : xs.length ≤ 1099511627776) (hat : -9223372036854775808 ≤ at_ ∧ at_ ≤ 9223372036854775807) :
   Ct Tryz.prog 59 #[.slice ao xs.length c, .int .i64 at_] w (fun v w' => v = .tuple #[.int .u64 ((getV xs at_ 8 : Nat) : Int), .int .i64 (getE xs at_ 8)] ∧ w = w') := by
 refine Ct.enter [(0, .slice ao xs.length c), (1, .int .i64 at_)] Tryz.func59 rfl rfl rfl rfl ?_
 have hv := getV_lt xs at_ 8
 refine C.seq (C.region (W.assign rfl rfl (W.assign rfl rfl (W.nil (At.thenCode (C.seq (C.region (W.move rfl rfl (W.move rfl rfl ?_)))))))))
 refine W.call Tryz.call88 rfl (get_ok _ _ _ _ 8 _ hS hlen hat (by decide)) rfl ?_
 rintro v w' ⟨rfl, rfl⟩
 refine W.extract rfl rfl rfl (W.extract rfl rfl rfl (W.assign rfl rfl (W.assign rfl rfl (W.nil (At.thenCode (C.ret ?_))))))
 refine At.ret2 Tryz.results59 rfl rfl ?_
 exact ⟨rfl, rfl⟩
theorem Put32_ok (ao : Option Addr) (c : Nat) (xs : List UInt8) (x : Nat) (w : World) (hS : Bs w ao c xs) (hlen : xs.length ≤ 1099511627776) :
   Ct Tryz.prog 84 #[.slice ao xs.length c, .int .u32 (x : Int)] w (fun v w' => Ow w' w.heap.size 5 v (xs ++ be32 x) ∧ Ext w w') := by
 refine Ct.enter [(0, .slice ao xs.length c), (1, .int .u32 (x : Int))] Tryz.func84 rfl rfl rfl rfl ?_
 refine C.seq (C.region (W.assign rfl rfl (W.nil (At.thenCode (C.seq (C.region (W.move rfl rfl ?_)))))))
 refine W.appendB E8 Tryz.underlying22 rfl rfl (Ow.nil w w.heap.size 5) hS (by simp; omega) (Nat.le_refl _) rfl ?_
 rw [List.nil_append]
 intro v6 w1 ho1 hg1 _
 have hx1 : Ext w w1 := (Chg.of_grown hg1).mono fun k hk => by cases hk
 refine W.move rfl rfl ?_
 refine W.shrU (B := 32) (s := 24) rfl rfl rfl rfl ?_
 refine W.convUU (M := 256) rfl Tryz.underlying101 Tryz.underlying5 rfl rfl rfl ?_
 refine W.move rfl rfl ?_
 refine W.shrU (B := 32) (s := 16) rfl rfl rfl rfl ?_
 refine W.convUU (M := 256) rfl Tryz.underlying101 Tryz.underlying5 rfl rfl rfl ?_
 refine W.move rfl rfl ?_
 refine W.shrU (B := 32) (s := 8) rfl rfl rfl rfl ?_
 refine W.convUU (M := 256) rfl Tryz.underlying101 Tryz.underlying5 rfl rfl rfl ?_
 refine W.move rfl rfl ?_
 refine W.convUU (M := 256) rfl Tryz.underlying101 Tryz.underlying5 rfl rfl rfl ?_
 refine W.litB (be32 x) E8 Tryz.underlying22 rfl ?_ rfl rfl rfl ?_
 simp only [be32, List.map_cons, List.map_nil, byteV_ofNat]; rfl
 intro g w2 hg hx2 _ hb2
 have ho2 := ownsRow_ext ho1 hx2
 refine W.appendB E8 Tryz.underlying22 rfl rfl ho2 hb2 (by rw [be32_length]; omega) (by have := hx1.size; have := hx2.size; omega) rfl ?_
 intro v19 w3 ho3 hg3 _
 refine W.assign rfl rfl (W.nil (At.thenCode (C.ret ?_)))
 refine At.ret1 Tryz.results84 rfl ?_
 refine ⟨ho3, (hx1.ext hx2).news (Chg.of_grown hg3) ?_⟩
 intro k hk
 exact Or.inr ((World.ownsRow.lt ho2 k hk.symm).1)
theorem land255 (x : Nat) : landM 4294967296 x 255 % 256 = x % 256 := by
 rw [landM, show 255 = 2 ^ 8 - 1 from rfl, Nat.and_two_pow_sub_one_eq_mod]
 omega
theorem land32 (x : Nat) : landM 18446744073709551616 x 4294967295 % 4294967296 = x % 4294967296 := by
 rw [landM, show 4294967295 = 2 ^ 32 - 1 from rfl, Nat.and_two_pow_sub_one_eq_mod]
 omega
theorem Put64_ok (ao : Option Addr) (c : Nat) (xs : List UInt8) (x : Nat) (w : World) (hS : Bs w ao c xs) (hlen : xs.length ≤ 1099511627000) :
   Ct Tryz.prog 44 #[.slice ao xs.length c, .int .u64 (x : Int)] w (fun v w' => Ow w' w.heap.size 5 v (xs ++ be64 x) ∧ Ext w w') := by
 refine Ct.enter [(0, .slice ao xs.length c), (1, .int .u64 (x : Int))] Tryz.func44 rfl rfl rfl rfl ?_
 refine C.seq (C.region (W.assign rfl rfl (W.nil (At.thenCode (C.seq (C.region (W.move rfl rfl (W.move rfl rfl ?_))))))))
 refine W.shrU (B := 64) (s := 32) rfl rfl rfl rfl ?_
 refine W.convUU (M := 4294967296) rfl Tryz.underlying83 Tryz.underlying101 rfl rfl rfl ?_
 refine W.call Tryz.call84 rfl (Put32_ok _ _ _ _ _ hS (by omega)) rfl ?_
 rintro v9 w9 ⟨hO9, hX9⟩
 obtain ⟨ao1, c1, rfl, hS9, hb9⟩ := ownsRow_form hO9
 refine W.move rfl rfl ?_
 refine W.convUU (M := 4294967296) rfl Tryz.underlying83 Tryz.underlying101 rfl rfl rfl ?_
 refine W.call Tryz.call84 rfl (Put32_ok _ _ _ _ _ hS9 (by rw [List.length_append, be32_length]; omega)) rfl ?_
 rintro v12 w12 ⟨hO12, hX12⟩
 refine W.assign rfl rfl (W.nil (At.thenCode (C.ret ?_)))
 refine At.ret1 Tryz.results44 rfl ?_
 refine ⟨?_, hX9.ext hX12⟩
 have := ownsRow_base hO12 hX9.size
 rw [List.append_assoc] at this
 exact this
theorem RPut32_ok (ao : Option Addr) (c : Nat) (xs : List UInt8) (x : Nat) (w : World) (hS : Bs w ao c xs) (hlen : xs.length ≤ 1099511627776) :
   Ct Tryz.prog 87 #[.slice ao xs.length c, .int .u32 (x : Int)] w (fun v w' => Ow w' w.heap.size 5 v (xs ++ be32 x) ∧ Ext w w') := by
 refine Ct.enter [(0, .slice ao xs.length c), (1, .int .u32 (x : Int))] Tryz.func87 rfl rfl rfl rfl ?_
 refine C.seq (C.region (W.assign rfl rfl (W.nil (At.thenCode (C.seq (C.region (W.move rfl rfl ?_)))))))
 refine W.appendB E8 Tryz.underlying22 rfl rfl (Ow.nil w w.heap.size 5) hS (by simp; omega) (Nat.le_refl _) rfl ?_
 rw [List.nil_append]
 intro v6 w1 ho1 hg1 _
 have hx1 : Ext w w1 := (Chg.of_grown hg1).mono fun k hk => by cases hk
 refine W.move rfl rfl ?_
 refine W.shrU (B := 32) (s := 24) rfl rfl rfl rfl ?_
 refine W.convUU (M := 256) rfl Tryz.underlying101 Tryz.underlying5 rfl rfl rfl ?_
 refine W.move rfl rfl ?_
 refine W.shrU (B := 32) (s := 16) rfl rfl rfl rfl ?_
 refine W.andU (M := 4294967296) (n := 255) rfl rfl rfl rfl rfl ?_
 refine W.convUU (M := 256) rfl Tryz.underlying101 Tryz.underlying5 rfl rfl rfl ?_
 refine W.move rfl rfl ?_
 refine W.shrU (B := 32) (s := 8) rfl rfl rfl rfl ?_
 refine W.andU (M := 4294967296) (n := 255) rfl rfl rfl rfl rfl ?_
 refine W.convUU (M := 256) rfl Tryz.underlying101 Tryz.underlying5 rfl rfl rfl ?_
 refine W.move rfl rfl ?_
 refine W.andU (M := 4294967296) (n := 255) rfl rfl rfl rfl rfl ?_
 refine W.convUU (M := 256) rfl Tryz.underlying101 Tryz.underlying5 rfl rfl rfl ?_
 refine W.litB (be32 x) E8 Tryz.underlying22 rfl ?_ rfl rfl rfl ?_
 simp only [be32, List.map_cons, List.map_nil, byteV_ofNat, land255]; rfl
 intro g w2 hg hx2 _ hb2
 have ho2 := ownsRow_ext ho1 hx2
 refine W.appendB E8 Tryz.underlying22 rfl rfl ho2 hb2 (by rw [be32_length]; omega) (by have := hx1.size; have := hx2.size; omega) rfl ?_
 intro v22 w3 ho3 hg3 _
 refine W.assign rfl rfl (W.nil (At.thenCode (C.ret ?_)))
 refine At.ret1 Tryz.results87 rfl ?_
 refine ⟨ho3, (hx1.ext hx2).news (Chg.of_grown hg3) ?_⟩
 intro k hk
 exact Or.inr ((World.ownsRow.lt ho2 k hk.symm).1)
theorem RPut64_ok (ao : Option Addr) (c : Nat) (xs : List UInt8) (x : Nat) (w : World) (hS : Bs w ao c xs) (hlen : xs.length ≤ 1099511627000) :
   Ct Tryz.prog 46 #[.slice ao xs.length c, .int .u64 (x : Int)] w (fun v w' => Ow w' w.heap.size 5 v (xs ++ be64 x) ∧ Ext w w') := by
 refine Ct.enter [(0, .slice ao xs.length c), (1, .int .u64 (x : Int))] Tryz.func46 rfl rfl rfl rfl ?_
 refine C.seq (C.region (W.assign rfl rfl (W.nil (At.thenCode (C.seq (C.region (W.move rfl rfl (W.move rfl rfl ?_))))))))
 refine W.shrU (B := 64) (s := 32) rfl rfl rfl rfl ?_
 refine W.convUU (M := 4294967296) rfl Tryz.underlying83 Tryz.underlying101 rfl rfl rfl ?_
 refine W.call Tryz.call87 rfl (RPut32_ok _ _ _ _ _ hS (by omega)) rfl ?_
 rintro v9 w9 ⟨hO9, hX9⟩
 obtain ⟨ao1, c1, rfl, hS9, hb9⟩ := ownsRow_form hO9
 refine W.move rfl rfl ?_
 refine W.andU (M := 18446744073709551616) (n := 4294967295) rfl rfl rfl rfl rfl ?_
 refine W.convUU (M := 4294967296) rfl Tryz.underlying83 Tryz.underlying101 rfl rfl rfl ?_
 refine W.call Tryz.call87 rfl (RPut32_ok _ _ _ _ _ hS9 (by rw [List.length_append, be32_length]; omega)) rfl ?_
 rintro v12 w12 ⟨hO12, hX12⟩
 refine W.assign rfl rfl (W.nil (At.thenCode (C.ret ?_)))
 refine At.ret1 Tryz.results46 rfl ?_
 refine ⟨?_, hX9.ext hX12⟩
 have := ownsRow_base hO12 hX9.size
 rw [List.append_assoc, land32] at this
 exact this
theorem Rget_ok (ao : Option Addr) (c : Nat) (xs : List UInt8) (at_ : Int) (n : Nat) (w : World) (hS : Bs w ao c xs) (hlen : xs.length ≤ 1099511627776) (hat : -9223372036854775808 ≤ at_ ∧ at_ ≤ 9223372036854775807) (hn : n ≤ 8) :
   Ct Tryz.prog 99 #[.slice ao xs.length c, .int .i64 at_, .int .i64 (n : Int)] w (fun v w' => v = .tuple #[.int .u64 ((getV xs at_ n : Nat) : Int), .int .i64 (getE xs at_ n)] ∧ w = w') := by
 refine Ct.enter [(0, .slice ao xs.length c), (1, .int .i64 at_), (2, .int .i64 (n : Int))] Tryz.func99 rfl rfl rfl rfl ?_
 refine C.seq (C.region (W.assign rfl rfl (W.assign rfl rfl (W.nil (At.thenCode (C.seq (C.seq (C.region (W.move rfl rfl (W.lssI rfl rfl rfl (W.move rfl rfl ?_)))))))))))
 refine W.splitD (fun g12 => ?_) (fun g12 => ?_)
 refine W.skips rfl rfl rfl rfl rfl rfl (W.skips rfl rfl rfl rfl rfl rfl (W.skips rfl rfl rfl rfl rfl rfl (W.skips rfl rfl rfl rfl rfl rfl (W.pickT rfl rfl rfl (W.nil (At.thenCode ?_))))))
 refine C.condT rfl ?_
 refine C.seq (C.region (W.assign rfl rfl (W.assign rfl rfl (W.nil (At.thenCode (C.ret (At.thenRet ?_)))))))
 refine At.ret2 Tryz.results99 rfl rfl ?_
 have e : getE xs at_ n = 1 := by unfold getE; rw [if_pos (Or.inl g12)]
 exact ⟨by rw [getV, if_neg (by omega), e]; rfl, rfl⟩
 refine W.wants rfl rfl rfl rfl (W.move rfl rfl (W.wants rfl rfl rfl rfl (W.move rfl rfl (W.wants rfl rfl rfl rfl (W.lenS rfl Tryz.underlying22 rfl (W.wants rfl rfl rfl rfl (W.gtrI rfl rfl rfl (W.pickF rfl rfl rfl (W.nil (At.thenCode ?_))))))))))
 refine C.condD rfl (fun c17 => ?_) (fun c17 => ?_)
 refine C.seq (C.region (W.assign rfl rfl (W.assign rfl rfl (W.nil (At.thenCode (C.ret (At.thenRet ?_)))))))
 refine At.ret2 Tryz.results99 rfl rfl ?_
 have e : getE xs at_ n = 1 := by unfold getE; rw [if_pos (Or.inr c17)]
 exact ⟨by rw [getV, if_neg (by omega), e]; rfl, rfl⟩
 refine C.skip (At.thenCode (C.seq (C.seq (C.region (W.move rfl rfl (W.lenS rfl Tryz.underlying22 rfl (W.move rfl rfl ?_)))))))
 refine W.subI rfl rfl (by omega) rfl ?_
 refine W.move rfl rfl (W.lssI rfl rfl rfl (W.nil (At.thenCode ?_)))
 refine C.condD rfl (fun c23 => ?_) (fun c23 => ?_)
 refine C.seq (C.region (W.assign rfl rfl (W.assign rfl rfl (W.nil (At.thenCode (C.ret (At.thenRet ?_)))))))
 refine At.ret2 Tryz.results99 rfl rfl ?_
 have e : getE xs at_ n = 4 := by unfold getE; rw [if_neg (by omega), if_pos c23]
 exact ⟨by rw [getV, if_neg (by omega), e]; rfl, rfl⟩
 have e0 : getE xs at_ n = 0 := getE_0.2 (by omega)
 obtain ⟨at', rfl⟩ : ∃ k : Nat, at_ = (k : Int) := ⟨at_.toNat, by omega⟩
 refine C.skip (At.thenCode (C.seq (C.region (W.assign rfl rfl (W.nil (At.thenCode (C.seq (C.seq (C.region (W.assign rfl rfl (W.nil ?_)))))))))))
 refine At.thenCode (C.block ?_)
 refine C.loop (X := Nat) (fun x_ => [(0, .slice ao xs.length c), (1, .int .i64 (at' : Int)), (2, .int .i64 (n : Int)), (8, .int .u64 ((beNat ((xs.drop at').take x_) : Nat) : Int)), (9, .int .i64 (x_ : Int))]) (fun x_ w1 => w = w1 ∧ x_ ≤ n) (fun x_ => n - x_) (0) (sc rfl (sc rfl (sc rfl (sc rfl (sc rfl (Sub.nil)))))) ?start1 ?_
 case start1 =>
   show w = _ ∧ (0) ≤ n
   exact ⟨rfl, by omega⟩
 rintro i w1 hI_
 replace hI_ : w = w1 ∧ i ≤ n := hI_
 obtain ⟨rfl, hi⟩ := hI_
 refine C.weaken (l' := [(0, .slice ao xs.length c), (1, .int .i64 (at' : Int)), (2, .int .i64 (n : Int)), (8, .int .u64 ((beNat ((xs.drop at').take i) : Nat) : Int)), (9, .int .i64 (i : Int))]) (sc rfl (sc rfl (sc rfl (sc rfl (sc rfl (Sub.nil)))))) ?_
 refine C.seq (C.seq (C.region (W.move rfl rfl (W.move rfl rfl (W.lssI rfl rfl rfl (W.nil (At.thenCode ?_)))))))
 refine C.condD rfl (fun c26 => ?_) (fun c26 => ?_)
 refine C.skip (At.thenCode (C.seq (C.block (C.region (W.move rfl rfl ?_)))))
 refine W.shlU (M := 18446744073709551616) (B := 64) (s := 8) rfl rfl rfl rfl rfl rfl ?_
 refine W.move rfl rfl (W.move rfl rfl (W.move rfl rfl ?_))
 refine W.addI rfl rfl (by omega) rfl ?_
 have hlt : at' + i < xs.length := by omega
 refine W.idx (v := .int .u8 ((((xs[at' + i]'hlt).toNat : Nat)) : Int)) E8 Tryz.underlying22 Tryz.underlying5 rfl rfl hS rfl (by omega) ?_ rfl rfl ?_
 rw [show ((at' : Int) + (i : Int)).toNat = at' + i by omega]
 exact get_byte hlt
 intro p35
 have hb := UInt8.toNat_lt (xs[at' + i]'hlt)
 -- read with the address
 refine W.convU (M := 18446744073709551616) rfl Tryz.underlying5 Tryz.underlying83 rfl rfl (by omega) rfl ?_
 refine W.orU (M := 18446744073709551616) rfl rfl rfl rfl rfl ?_
 refine W.assign rfl rfl (W.nil (At.blockNormal (At.thenCode (C.region (W.move rfl rfl ?_)))))
 refine W.addI rfl rfl (by omega) rfl ?_
 refine W.assign rfl rfl (W.nil ?_)
 refine At.thenRound (i + 1) (sc rfl (sc rfl (sc rfl (sc (look_eq rfl (by rw [get_step hlt (by omega) hn])) (sc (look_eq rfl (by rw [show (i : Int) + 1 = ((i + 1 : Nat) : Int) by omega])) (Sub.nil)))))) (show w = _ ∧ (i + 1) ≤ n from ?_) (show n - (i + 1) < n - i from ?_)
 exact ⟨rfl, by omega⟩
 omega
 refine C.exit (At.thenExit (At.thenExit (At.blockSelf (At.thenCode (C.seq (C.region (W.move rfl rfl (W.assign rfl rfl (W.assign rfl rfl (W.nil (At.thenCode ?_)))))))))))
 refine C.ret ?_
 refine At.ret2 Tryz.results99 rfl rfl ?_
 obtain rfl : i = n := by omega
 exact ⟨by rw [getV, if_pos e0, e0]; rfl, rfl⟩
theorem RGet32_ok (ao : Option Addr) (c : Nat) (xs : List UInt8) (at_ : Int) (w : World) (hS : Bs w ao c xs) (hlen : xs.length ≤ 1099511627776) (hat : -9223372036854775808 ≤ at_ ∧ at_ ≤ 9223372036854775807) :
   Ct Tryz.prog 60 #[.slice ao xs.length c, .int .i64 at_] w (fun v w' => v = .tuple #[.int .u32 ((getV xs at_ 4 : Nat) : Int), .int .i64 (getE xs at_ 4)] ∧ w = w') := by
 refine Ct.enter [(0, .slice ao xs.length c), (1, .int .i64 at_)] Tryz.func60 rfl rfl rfl rfl ?_
 have hv := getV_lt xs at_ 4
 refine C.seq (C.region (W.assign rfl rfl (W.assign rfl rfl (W.nil (At.thenCode (C.seq (C.region (W.move rfl rfl (W.move rfl rfl ?_)))))))))
 refine W.call Tryz.call99 rfl (Rget_ok _ _ _ _ 4 _ hS hlen hat (by decide)) rfl ?_
 rintro v w' ⟨rfl, rfl⟩
 refine W.move rfl rfl (W.extract rfl rfl rfl (W.extract rfl rfl rfl (W.assign rfl rfl (W.assign rfl rfl (W.nil (At.thenCode (C.seq (C.region (W.move rfl rfl ?_)))))))))
 refine W.convU (M := 4294967296) rfl Tryz.underlying83 Tryz.underlying101 rfl rfl hv rfl ?_
 refine W.move rfl rfl (W.assign rfl rfl (W.assign rfl rfl (W.nil (At.thenCode (C.ret ?_)))))
 refine At.ret2 Tryz.results60 rfl rfl ?_
 exact ⟨rfl, rfl⟩
theorem RGet64_ok (ao : Option Addr) (c : Nat) (xs : List UInt8) (at_ : Int) (w : World) (hS : Bs w ao c xs) (hlen : xs.length ≤ 1099511627776) (hat : -9223372036854775808 ≤ at_ ∧ at_ ≤ 9223372036854775807) :
   Ct Tryz.prog 62 #[.slice ao xs.length c, .int .i64 at_] w (fun v w' => v = .tuple #[.int .u64 ((getV xs at_ 8 : Nat) : Int), .int .i64 (getE xs at_ 8)] ∧ w = w') := by
 refine Ct.enter [(0, .slice ao xs.length c), (1, .int .i64 at_)] Tryz.func62 rfl rfl rfl rfl ?_
 have hv := getV_lt xs at_ 8
 refine C.seq (C.region (W.assign rfl rfl (W.assign rfl rfl (W.nil (At.thenCode (C.seq (C.region (W.move rfl rfl (W.move rfl rfl ?_)))))))))
 refine W.call Tryz.call99 rfl (Rget_ok _ _ _ _ 8 _ hS hlen hat (by decide)) rfl ?_
 rintro v w' ⟨rfl, rfl⟩
 refine W.extract rfl rfl rfl (W.extract rfl rfl rfl (W.assign rfl rfl (W.assign rfl rfl (W.nil (At.thenCode (C.ret ?_))))))
 refine At.ret2 Tryz.results62 rfl rfl ?_
 exact ⟨rfl, rfl⟩
def turnK (n : Int) : Nat := (n % 32).toNat
def rotV (x : Nat) (n : Int) : Nat := iorM 4294967296 (shrM 32 x (turnK n)) (shlM 4294967296 32 x ((32 - turnK n) % 32))
theorem turnK_lt (n : Int) : turnK n < 32 := by unfold turnK; omega
theorem rotV_lt (x : Nat) (n : Int) : rotV x n < 4294967296 := by unfold rotV iorM; omega
theorem and31 (m : Nat) : landM 18446744073709551616 m 31 = m % 32 := by
 rw [landM, show 31 = 2 ^ 5 - 1 from rfl, Nat.and_two_pow_sub_one_eq_mod]; omega
theorem turnK_iu (n : Int) : landM 18446744073709551616 (iu 18446744073709551616 n) 31 = turnK n := by
 rw [and31]; unfold iu turnK; omega
theorem turnK_back (n : Int) : landM 18446744073709551616 (subM 18446744073709551616 32 (turnK n)) 31 = (32 - turnK n) % 32 := by
 have := turnK_lt n
 rw [and31]; unfold subM; omega
theorem bit_high {x i : Nat} (h : x < 4294967296) (hi : 32 ≤ i) : x.testBit i = false := by
 apply Nat.testBit_lt_two_pow
 have : (2 : Nat) ^ 32 ≤ 2 ^ i := Nat.pow_le_pow_right (by decide) hi
 omega
theorem rotV_bit {x : Nat} (h : x < 4294967296) (n : Int) {i : Nat} (hi : i < 32) : (rotV x n).testBit i = x.testBit ((i + turnK n) % 32) := by
 have hk := turnK_lt n
 unfold rotV iorM shrM shlM
 generalize turnK n = k at *
 rw [show (4294967296 : Nat) = 2 ^ 32 from rfl, Nat.testBit_mod_two_pow, Nat.testBit_or, Nat.testBit_div_two_pow, Nat.testBit_mod_two_pow, Nat.testBit_mul_two_pow]
 simp only [hi, decide_true, Bool.true_and]
 rw [show min k 32 = k by omega, show min ((32 - k) % 32) 32 = (32 - k) % 32 by omega]
 by_cases hk0 : k = 0
 subst hk0
 simp [Nat.mod_eq_of_lt hi]
 rw [Nat.mod_eq_of_lt (show 32 - k < 32 by omega)]
 by_cases hs : i + k < 32
 rw [Nat.mod_eq_of_lt hs, decide_eq_false (show ¬ (32 - k ≤ i) by omega)]
 simp
 rw [show (i + k) % 32 = i - (32 - k) by omega, bit_high h (show 32 ≤ i + k by omega), decide_eq_true (show 32 - k ≤ i by omega)]
 simp
theorem rotV_zero {x : Nat} (h : x < 4294967296) {n : Int} (hk : turnK n = 0) : rotV x n = x := by
 apply Nat.eq_of_testBit_eq
 intro i
 by_cases hi : i < 32
 rw [rotV_bit h n hi, hk, Nat.add_zero, Nat.mod_eq_of_lt hi]
 rw [bit_high (rotV_lt x n) (by omega), bit_high h (by omega)]
theorem Rot_ok (x : Nat) (n : Int) (w : World) :
   Ct Tryz.prog 116 #[.int .u32 (x : Int), .int .i64 n] w (fun v w' => v = .int .u32 ((rotV x n : Nat) : Int) ∧ w = w') := by
 refine Ct.enter [(0, .int .u32 (x : Int)), (1, .int .i64 n)] Tryz.func116 rfl rfl rfl rfl ?_
 refine C.seq (C.region (W.assign rfl rfl (W.nil (At.thenCode (C.seq (C.region (W.move rfl rfl ?_)))))))
 refine W.convIU (M := 18446744073709551616) rfl Tryz.underlying3 Tryz.underlying136 rfl rfl rfl ?_
 refine W.andU (M := 18446744073709551616) (n := 31) rfl rfl rfl rfl rfl ?_
 rw [turnK_iu]
 refine W.assign rfl rfl (W.nil (At.thenCode (C.seq (C.region (W.move rfl rfl (W.move rfl rfl ?_))))))
 refine W.shrU (B := 32) rfl rfl rfl rfl ?_
 refine W.move rfl rfl (W.move rfl rfl ?_)
 refine W.subU (M := 18446744073709551616) (m := 32) rfl rfl rfl rfl rfl ?_
 refine W.andU (M := 18446744073709551616) (n := 31) rfl rfl rfl rfl rfl ?_
 rw [turnK_back]
 refine W.shlU (M := 4294967296) (B := 32) rfl rfl rfl rfl rfl rfl ?_
 refine W.orU (M := 4294967296) rfl rfl rfl rfl rfl ?_
 refine W.assign rfl rfl (W.nil (At.thenCode (C.ret ?_)))
 refine At.ret1 Tryz.results116 rfl ?_
 exact ⟨rfl, rfl⟩
theorem RRot_ok (x : Nat) (n : Int) (w : World) (hx : x < 4294967296) :
   Ct Tryz.prog 117 #[.int .u32 (x : Int), .int .i64 n] w (fun v w' => v = .int .u32 ((rotV x n : Nat) : Int) ∧ w = w') := by
 refine Ct.enter [(0, .int .u32 (x : Int)), (1, .int .i64 n)] Tryz.func117 rfl rfl rfl rfl ?_
 have hk := turnK_lt n
 refine C.seq (C.region (W.assign rfl rfl (W.nil (At.thenCode (C.seq (C.region (W.move rfl rfl ?_)))))))
 refine W.remW rfl rfl (by decide) rfl ?_
 have ht1 := Int.tmod_lt_of_pos n (show (0 : Int) < 32 by decide)
 have ht2 : -32 < n.tmod 32 := by
   rw [Int.tmod_eq_emod]; split <;> omega
 have ht3 : (n.tmod 32 + 32) % 32 = n % 32 := by
   rw [Int.tmod_eq_emod]; split <;> omega
 refine W.addI rfl rfl (by omega) rfl ?_
 refine W.remI rfl rfl (by omega) rfl ?_
 rw [ht3]
 refine W.convIN (M := 18446744073709551616) rfl Tryz.underlying3 Tryz.underlying136 rfl rfl (by omega) rfl ?_
 refine W.eqv (v' := .int .u64 ((turnK n : Nat) : Int)) rfl ?_
 refine W.assign rfl rfl (W.nil (At.thenCode (C.seq (C.seq (C.region (W.move rfl rfl ?_))))))
 refine W.eqlU (n := 0) rfl rfl rfl ?_
 refine W.nil (At.thenCode ?_)
 refine C.condD rfl (fun c12 => ?_) (fun c12 => ?_)
 refine C.seq (C.region (W.move rfl rfl (W.assign rfl rfl (W.nil (At.thenCode (C.ret (At.thenRet ?_)))))))
 refine At.ret1 Tryz.results117 rfl ?_
 exact ⟨by rw [rotV_zero hx c12], rfl⟩
 refine C.skip (At.thenCode (C.seq (C.region (W.move rfl rfl (W.move rfl rfl ?_)))))
 refine W.shrU (B := 32) rfl rfl rfl rfl ?_
 refine W.move rfl rfl (W.move rfl rfl ?_)
 refine W.subU (M := 18446744073709551616) (m := 32) rfl rfl rfl rfl rfl ?_
 refine W.eqv (v' := .int .u64 (((32 - turnK n) % 32 : Nat) : Int)) (by unfold subM; congr 2; omega) ?_
 refine W.shlU (M := 4294967296) (B := 32) rfl rfl rfl rfl rfl rfl ?_
 refine W.orU (M := 4294967296) rfl rfl rfl rfl rfl ?_
 refine W.assign rfl rfl (W.nil (At.thenCode (C.ret ?_)))
 refine At.ret1 Tryz.results117 rfl ?_
 exact ⟨rfl, rfl⟩
def narA (a n : Int) (s : Bool) : Int := if s = true ∧ a / 2 ≤ n % a then n % a - a else n % a
def narE (b : Int) : Int := if b = 8 ∨ b = 16 ∨ b = 32 ∨ b = 64 then 0 else 1
def narV (n b : Int) (s : Bool) : Int := if b = 8 then narA 256 n s else if b = 16 then narA 65536 n s else if b = 32 then narA 4294967296 n s else if b = 64 then n else 0
end Go.Proofs.YthiijdbiikljpaaGreat.Words
