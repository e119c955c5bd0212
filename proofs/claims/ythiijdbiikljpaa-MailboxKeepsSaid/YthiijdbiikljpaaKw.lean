/- A small library of this project's own: a frame told as a list of (slot, value), one lemma for each kind of operation, each kind of code and each way out; used by the walks of this seat. -/
import Derived.WalkKit
import Derived.Laws.MakeOwn
import Derived.Laws.CopyOwn
import Derived.Laws.Bits64
import Derived.Deep.WholeRow
import Derived.Deep.MidRow
import Derived.Deep.LoopGhost
namespace Go.Proofs.Ythiijdbiikljpaa.KW
open Go Go.RowKit
set_option linter.unusedVariables false
set_option linter.unusedSimpArgs false

/-! ### The frame as a list -/
abbrev Env := List (Nat × Value)

def look : Env → Nat → Option Value
  | [], _ => none
  | (k, v) :: r, t => bif Nat.beq k t then some v else look r t

theorem look_self (d : Nat) (v : Value) (l : Env) : look ((d, v) :: l) d = some v := by simp [look]
theorem look_ne {d t : Nat} (h : d ≠ t) (v : Value) (l : Env) : look ((d, v) :: l) t = look l t := by
  have : Nat.beq d t = false := by
    cases hb : Nat.beq d t with
    | false => rfl
    | true => exact absurd (Nat.eq_of_beq_eq_true hb) h
  simp [look, this]

theorem look_eq {l : Env} {t : Nat} {v v' : Value} (h : look l t = some v) (e : v = v') : look l t = some v' := by subst e; exact h

structure Has (N : Nat) (l : Env) (a : Act) : Prop where
  defers : a.defers = []
  size : a.tmps.size = N
  mem : ∀ t v, look l t = some v → a.tmps[t]? = some v

def Sub (l' l : Env) : Prop := ∀ t v, look l' t = some v → look l t = some v
theorem Sub.nil {l : Env} : Sub [] l := fun t v h => by simp [look] at h
theorem Sub.cons {l r : Env} {t : Nat} {v : Value} (h : look l t = some v) (s : Sub r l) : Sub ((t, v) :: r) l := by
  intro t' v' h'
  by_cases e : t = t'
  · subst e; rw [look_self] at h'; obtain rfl := Option.some.inj h'; exact h
  · rw [look_ne e] at h'; exact s t' v' h'
theorem Sub.refl (l : Env) : Sub l l := fun _ _ h => h
theorem Has.sub {N : Nat} {l l' : Env} {a : Act} (h : Has N l a) (s : Sub l' l) : Has N l' a := ⟨h.defers, h.size, fun t v hv => h.mem t v (s t v hv)⟩

theorem Has.put {N : Nat} {l : Env} {a : Act} (h : Has N l a) {d : Nat} (hd : d < N) (v : Value) : Has N ((d, v) :: l) (a.put (some d) v) := by
  refine ⟨h.defers, by simp [Act.put, h.size], fun t u ht => ?_⟩
  simp only [Act.put, Array.getElem?_setIfInBounds]
  by_cases e : d = t
  · subst e
    rw [look_self] at ht
    simp [h.size, hd, ht]
  · rw [if_neg e]
    rw [look_ne e] at ht
    exact h.mem t u ht

def ev (l : Env) : Operand → Option Value
  | .tmp t => look l t
  | .const v => some v
  | .global g => some (.pointer (some ⟨g, 0, none⟩))
  | .func f => some (.func (.func f) #[] #[])

theorem Has.ev {N : Nat} {l : Env} {a : Act} (h : Has N l a) {x : Operand} {v : Value} (hx : ev l x = some v) : a.eval x = v := by
  cases x with
  | tmp t => have := h.mem t v hx; simp [Act.eval, this]
  | const u => exact Option.some.inj hx
  | global g => exact Option.some.inj hx
  | func f => exact Option.some.inj hx

def evs (l : Env) : List Operand → Option (List Value)
  | [] => some []
  | x :: r => match KW.ev l x, evs l r with
    | some v, some vs => some (v :: vs)
    | _, _ => none
theorem Has.evs {N : Nat} {l : Env} {a : Act} (h : Has N l a) : ∀ {xs : List Operand} {vs : List Value}, evs l xs = some vs → xs.map a.eval = vs := by
  intro xs
  induction xs with
  | nil => intro vs hv; simp [KW.evs] at hv; simp [hv]
  | cons x r ih =>
    intro vs hv
    unfold KW.evs at hv
    split at hv
    · rename_i v vs' h1 h2
      obtain rfl := Option.some.inj hv
      simp [h.ev h1, ih h2]
    · cases hv

def envOf : Nat → List Value → Env
  | _, [] => []
  | k, v :: r => (k, v) :: envOf (k + 1) r
theorem look_envOf : ∀ (vs : List Value) (k t : Nat) (v : Value), look (envOf k vs) t = some v → k ≤ t ∧ vs[t - k]? = some v := by
  intro vs
  induction vs with
  | nil => intro k t v h; simp [envOf, look] at h
  | cons u r ih =>
    intro k t v h
    by_cases e : k = t
    · subst e
      rw [envOf, look_self] at h
      simp [h]
    · rw [envOf, look_ne e] at h
      obtain ⟨h1, h2⟩ := ih (k + 1) t v h
      refine ⟨by omega, ?_⟩
      rw [show t - k = (t - (k + 1)) + 1 by omega]
      simpa using h2

/-! ### Judgements -/
/-- Operations from here on. -/
structure W (P : Program) (N : Nat) (ops : Array Oper) (Q : Exit → Act → World → Prop) (os : List Oper) (l : Env) (w : World) : Prop where
  out : ∀ a, Has N l a → wpList P ops Q os a w
/-- Code from here on. -/
structure C (P : Program) (N : Nat) (c : Code) (Q : Exit → Act → World → Prop) (l : Env) (w : World) : Prop where
  out : ∀ a, Has N l a → c.wp P Q a w
/-- A way out. -/
structure At (P : Program) (N : Nat) (Q : Exit → Act → World → Prop) (e : Exit) (l : Env) (w : World) : Prop where
  out : ∀ a, Has N l a → Q e a w
/-- A function's contract: it returns a value of which R holds. -/
structure Ct (P : Program) (f : FuncId) (args : Array Value) (w : World) (R : Value → World → Prop) : Prop where
  out : Calls P f args w (fun e w' => ∃ v, e = .returned v ∧ R v w')

/-- What a law's walk has to come to. -/
abbrev LawOk (w : World) : Value → World → Prop := fun v w' => v = .bool true ∧ Below w.heap.size w w'

theorem Ct.mono {P : Program} {f : FuncId} {args : Array Value} {w : World} {R R' : Value → World → Prop} (h : Ct P f args w R) (hr : ∀ v w', R v w' → R' v w') : Ct P f args w R' :=
  ⟨h.out.mono fun e w' ⟨v, he, hv⟩ => ⟨v, he, hr v w' hv⟩⟩

section
variable {P : Program} {N : Nat} {Q : Exit → Act → World → Prop} {l : Env} {w : World}

theorem Ct.enter {f : FuncId} {fn : Func} {c : Code} {args : List Value} {R : Value → World → Prop} (l : Env) (hf : P.funcs[f]? = some fn) (hb : fn.body = some c) (hn : fn.ntmps = N) (hs : Nat.ble args.length N = true)
    (he : envOf 0 args = l) (h : C P N c (bodyPost P fn (fun e w' => ∃ v, e = .returned v ∧ R v w')) l w) : Ct P f args.toArray w R := by
  subst he
  have hs := Nat.le_of_ble_eq_true hs
  refine ⟨calls_of_wp hf hb (h.out _ ⟨rfl, ?_, ?_⟩)⟩
  · simp [hn]; omega
  · intro t v ht
    obtain ⟨_, h2⟩ := look_envOf args 0 t v ht
    simp only [Nat.sub_zero] at h2
    have hlt : t < args.length := (List.getElem?_eq_some_iff.1 h2).1
    show (args.toArray ++ _)[t]? = some v
    rw [Array.getElem?_append, if_pos (by simpa using hlt)]
    simpa using h2

/-! ### Code -/
theorem C.weaken {c : Code} {l' : Env} (s : Sub l' l) (h : C P N c Q l' w) : C P N c Q l w := ⟨fun a ha => h.out a (ha.sub s)⟩
theorem C.seq {x y : Code} (h : C P N x (Exit.then (y.wp P Q) Q) l w) : C P N (.seq x y) Q l w := ⟨fun a ha => wp_seq (h.out a ha)⟩
theorem C.region {id : Nat} {os : List Oper} (h : W P N os.toArray Q os l w) : C P N (.region id os.toArray false) Q l w := ⟨fun a ha => wp_region_lit (h.out a ha)⟩
theorem C.cond {c : Operand} {x y : Code} {t : Bool} (hc : ev l c = some (.bool t)) (ht : t = true → C P N x Q l w) (hf : t = false → C P N y Q l w) : C P N (.cond c x y) Q l w :=
  ⟨fun a ha => wp_cond_split (ha.ev hc) (fun h => (ht h).out a ha) (fun h => (hf h).out a ha)⟩
theorem C.condD {c : Operand} {x y : Code} {p : Prop} [Decidable p] (hc : ev l c = some (.bool (decide p))) (ht : p → C P N x Q l w) (hf : ¬ p → C P N y Q l w) : C P N (.cond c x y) Q l w :=
  C.cond hc (fun h => ht (of_decide_eq_true h)) (fun h => hf (of_decide_eq_false h))
theorem C.condT {c : Operand} {x y : Code} (hc : ev l c = some (.bool true)) (ht : C P N x Q l w) : C P N (.cond c x y) Q l w :=
  C.cond hc (fun _ => ht) (fun h => by cases h)
theorem C.condF {c : Operand} {x y : Code} (hc : ev l c = some (.bool false)) (hf : C P N y Q l w) : C P N (.cond c x y) Q l w :=
  C.cond hc (fun h => by cases h) (fun _ => hf)
theorem C.block {id : Nat} {c : Code} (h : C P N c (Exit.inBlock id Q) l w) : C P N (.block id c) Q l w := ⟨fun a ha => wp_block (h.out a ha)⟩
theorem C.skip (h : At P N Q .normal l w) : C P N .skip Q l w := ⟨fun a ha => wp_skip (h.out a ha)⟩
theorem C.exit {id : Nat} (h : At P N Q (.exit id) l w) : C P N (.exit id) Q l w := ⟨fun a ha => wp_exit (h.out a ha)⟩
theorem C.ret (h : At P N Q .ret l w) : C P N .ret Q l w := ⟨fun a ha => wp_ret (h.out a ha)⟩

/-- What a round of a loop has to come to: the relation at a smaller measure. -/
def Round {X : Type} (N : Nat) (L : X → Env) (I : X → World → Prop) (μ : X → Nat) (x : X) : Act → World → Prop :=
  fun a w => ∃ x', Has N (L x') a ∧ I x' w ∧ μ x' < μ x

theorem C.loop {c : Code} {X : Type} (L : X → Env) (I : X → World → Prop) (μ : X → Nat) (x : X) (hl : Sub (L x) l) (h0 : I x w)
    (round : ∀ x w, I x w → C P N c (Exit.then (Round N L I μ x) Q) (L x) w) : C P N (.loop c) Q l w := by
  constructor
  intro a ha
  refine wp_loop_ghost (fun n a w => ∃ x, μ x = n ∧ Has N (L x) a ∧ I x w) (μ x) ⟨x, rfl, ha.sub hl, h0⟩ ?_
  rintro n a w ⟨x, rfl, hA, hI⟩
  refine wp_mono ((round x w hI).out a hA) ?_
  intro e a' w' hq
  cases e with
  | normal => obtain ⟨x', h1, h2, h3⟩ := hq; exact ⟨μ x', h3, x', rfl, h1, h2⟩
  | exit id => exact hq
  | goto l => exact hq
  | ret => exact hq
  | panic ch => exact hq
  | outgrown => exact hq

/-- A cut behind a piece of code that keeps the world: only this list is known behind it. -/
theorem C.seqCut {x y : Code} (l' : Env) (hx : C P N x (fun e a w' => e = .normal ∧ Has N l' a ∧ w' = w) l w) (hy : C P N y Q l' w) : C P N (.seq x y) Q l w := by
  refine C.seq ⟨fun a ha => wp_mono (hx.out a ha) ?_⟩
  rintro e a' w' ⟨rfl, h, rfl⟩
  exact hy.out a' h
theorem At.cut {l' : Env} (s : Sub l' l) : At P N (fun e a w' => e = .normal ∧ Has N l' a ∧ w' = w) .normal l w := ⟨fun a ha => ⟨rfl, ha.sub s, rfl⟩⟩

/-- A cut behind a piece of code: what is known behind it, told by a variable. -/
def Mid {X : Type} (N : Nat) (L : X → Env) (I : X → World → Prop) : Act → World → Prop := fun a w => ∃ x, Has N (L x) a ∧ I x w
theorem C.seqMid {x y : Code} {X : Type} (L : X → Env) (I : X → World → Prop) (hx : C P N x (Exit.then (Mid N L I) Q) l w) (hy : ∀ z w', I z w' → C P N y Q (L z) w') : C P N (.seq x y) Q l w := by
  refine C.seq ⟨fun a ha => wp_mono (hx.out a ha) ?_⟩
  intro e a w' h
  cases e with
  | normal => obtain ⟨z, h1, h2⟩ := h; exact (hy z w' h2).out a h1
  | exit id => exact h
  | goto l => exact h
  | ret => exact h
  | panic ch => exact h
  | outgrown => exact h
/-- The same where the code that follows is told already. -/
theorem C.mid {x y : Code} {X : Type} (L : X → Env) (I : X → World → Prop) (hx : C P N x (Exit.then (Mid N L I) Q) l w) (hy : ∀ z w', I z w' → C P N y Q (L z) w') : C P N x (Exit.then (y.wp P Q) Q) l w := by
  refine ⟨fun a ha => wp_mono (hx.out a ha) ?_⟩
  intro e a w' h
  cases e with
  | normal => obtain ⟨z, h1, h2⟩ := h; exact (hy z w' h2).out a h1
  | exit id => exact h
  | goto l => exact h
  | ret => exact h
  | panic ch => exact h
  | outgrown => exact h
theorem At.thenMid {X : Type} {L : X → Env} {I : X → World → Prop} (x : X) (s : Sub (L x) l) (hI : I x w) : At P N (Exit.then (Mid N L I) Q) .normal l w := ⟨fun a ha => ⟨x, ha.sub s, hI⟩⟩

/-! ### Ways out -/
theorem At.thenCode {y : Code} {Q' : Exit → Act → World → Prop} (h : C P N y Q l w) : At P N (Exit.then (y.wp P Q) Q') .normal l w := ⟨fun a ha => h.out a ha⟩
theorem At.thenRound {X : Type} {L : X → Env} {I : X → World → Prop} {μ : X → Nat} {x : X} (x' : X) (s : Sub (L x') l) (hI : I x' w) (hm : μ x' < μ x) : At P N (Exit.then (Round N L I μ x) Q) .normal l w :=
  ⟨fun a ha => ⟨x', ha.sub s, hI, hm⟩⟩
theorem At.thenExit {K : Act → World → Prop} {i : Nat} (h : At P N Q (.exit i) l w) : At P N (Exit.then K Q) (.exit i) l w := ⟨fun a ha => h.out a ha⟩
theorem At.thenRet {K : Act → World → Prop} (h : At P N Q .ret l w) : At P N (Exit.then K Q) .ret l w := ⟨fun a ha => h.out a ha⟩
theorem At.blockSelf {i : Nat} (h : At P N Q .normal l w) : At P N (Exit.inBlock i Q) (.exit i) l w := ⟨fun a ha => by simp only [Exit.inBlock, if_true]; exact h.out a ha⟩
theorem At.blockOther {i j : Nat} (hne : Nat.beq j i = false) (h : At P N Q (.exit j) l w) : At P N (Exit.inBlock i Q) (.exit j) l w :=
  ⟨fun a ha => by simp only [Exit.inBlock]; rw [if_neg (by intro e; subst e; simp at hne)]; exact h.out a ha⟩
theorem At.blockNormal {i : Nat} (h : At P N Q .normal l w) : At P N (Exit.inBlock i Q) .normal l w := ⟨fun a ha => h.out a ha⟩
theorem At.blockRet {i : Nat} (h : At P N Q .ret l w) : At P N (Exit.inBlock i Q) .ret l w := ⟨fun a ha => h.out a ha⟩

/-- The post that 'Ct.enter' asks. -/
abbrev Ret (P : Program) (fn : Func) (R : Value → World → Prop) : Exit → Act → World → Prop := bodyPost P fn (fun e w' => ∃ v, e = .returned v ∧ R v w')
section
variable {fn : Func} {R : Value → World → Prop}
theorem At.ret0 (hr : fn.results = #[]) (hR : R (.tuple #[]) w) : At P N (Ret P fn R) .ret l w :=
  ⟨fun a ha => bodyPost_ret (results_none hr a.tmps P w) ha.defers ⟨_, rfl, hR⟩⟩
theorem At.end0 (hr : fn.results = #[]) (hR : R (.tuple #[]) w) : At P N (Ret P fn R) .normal l w :=
  ⟨fun a ha => bodyPost_end (results_none hr a.tmps P w) ha.defers ⟨_, rfl, hR⟩⟩
theorem At.ret1 {r : Tmp} {v : Value} (hr : fn.results = #[.tmp r]) (hv : look l r = some v) (hR : R v w) : At P N (Ret P fn R) .ret l w :=
  ⟨fun a ha => bodyPost_ret (v := v) (by rw [results_tmp hr]; simp [ha.mem _ _ hv]) ha.defers ⟨_, rfl, hR⟩⟩
theorem At.ret2 {r s : Tmp} {v u : Value} (hr : fn.results = #[.tmp r, .tmp s]) (hv : look l r = some v) (hu : look l s = some u) (hR : R (.tuple #[v, u]) w) : At P N (Ret P fn R) .ret l w :=
  ⟨fun a ha => bodyPost_ret (v := .tuple #[v, u]) (by rw [results_tmp2 hr]; simp [ha.mem _ _ hv, ha.mem _ _ hu]) ha.defers ⟨_, rfl, hR⟩⟩
end

/-! ### Operations -/
section
variable {ops : Array Oper} {rest : List Oper} {d : Tmp} {ty : TypeId} {pos : String} {aft : Array Edge}

theorem lt_of_blt {d N : Nat} (h : Nat.blt d N = true) : d < N := by
  have : d + 1 ≤ N := by simpa [Nat.blt] using h
  omega

theorem W.nil (h : At P N Q .normal l w) : W P N ops Q [] l w := ⟨fun a ha => h.out a ha⟩
theorem W.weaken {os : List Oper} {l' : Env} (s : Sub l' l) (h : W P N ops Q os l' w) : W P N ops Q os l w := ⟨fun a ha => h.out a (ha.sub s)⟩
/-- An operation that yields a value. -/
theorem W.op {o : Oper} {v : Value} {w' : World} (hg : o.guard = none) (hd : o.dst = some d) (hN : Nat.blt d N = true) (hrun : ∀ a, Has N l a → (execOp a.eval o).run P w = .ok (.value v) w')
    (next : W P N ops Q rest ((d, v) :: l) w') : W P N ops Q (o :: rest) l w :=
  ⟨fun a ha => wpList_plain hg fun K hK => by
    unfold Oper.wp
    rw [hrun a ha]
    simp only [Oper.upon, hd]
    exact hK _ _ (next.out _ (ha.put (lt_of_blt hN) v))⟩
/-- An operation that yields none (a store). -/
theorem W.opSkip {o : Oper} {w' : World} (hg : o.guard = none) (hd : o.dst = none) (hrun : ∀ a, Has N l a → (execOp a.eval o).run P w = .ok .skip w')
    (next : W P N ops Q rest l w') : W P N ops Q (o :: rest) l w :=
  ⟨fun a ha => wpList_plain hg fun K hK => by
    unfold Oper.wp
    rw [hrun a ha]
    simp only [Oper.upon, hd, Act.put]
    exact hK _ _ (next.out _ ha)⟩
/-- The value told in another way. -/
theorem W.eqv {os : List Oper} {v v' : Value} (h : v = v') (next : W P N ops Q os ((d, v') :: l) w) : W P N ops Q os ((d, v) :: l) w := by subst h; exact next

theorem W.move {x : Operand} {v : Value} (hx : ev l x = some v) (hN : Nat.blt d N = true) (next : W P N ops Q rest ((d, v) :: l) w) : W P N ops Q (⟨some d, .move x, ty, pos, aft, none⟩ :: rest) l w :=
  W.op rfl rfl hN (fun a ha => by simp [execOp, ha.ev hx]) next
theorem W.assign {x : Operand} {v : Value} (hx : ev l x = some v) (hN : Nat.blt d N = true) (next : W P N ops Q rest ((d, v) :: l) w) : W P N ops Q (⟨some d, .assign x, ty, pos, aft, none⟩ :: rest) l w :=
  W.op rfl rfl hN (fun a ha => by simp [execOp, ha.ev hx]) next
theorem W.pick {c x y : Operand} {t : Bool} {u v : Value} (hc : ev l c = some (.bool t)) (hx : ev l x = some u) (hy : ev l y = some v) (hN : Nat.blt d N = true) (next : W P N ops Q rest ((d, if t then u else v) :: l) w) : W P N ops Q (⟨some d, .pick c x y, ty, pos, aft, none⟩ :: rest) l w :=
  W.op rfl rfl hN (fun a ha => by simp [execOp, ha.ev hc, ha.ev hx, ha.ev hy, asBool]) next
theorem W.pickT {c x y : Operand} {u : Value} (hc : ev l c = some (.bool true)) (hx : ev l x = some u) (hN : Nat.blt d N = true) (next : W P N ops Q rest ((d, u) :: l) w) : W P N ops Q (⟨some d, .pick c x y, ty, pos, aft, none⟩ :: rest) l w :=
  W.op rfl rfl hN (fun a ha => by simp [execOp, ha.ev hc, ha.ev hx, asBool]) next
theorem W.pickF {c x y : Operand} {u : Value} (hc : ev l c = some (.bool false)) (hy : ev l y = some u) (hN : Nat.blt d N = true) (next : W P N ops Q rest ((d, u) :: l) w) : W P N ops Q (⟨some d, .pick c x y, ty, pos, aft, none⟩ :: rest) l w :=
  W.op rfl rfl hN (fun a ha => by simp [execOp, ha.ev hc, ha.ev hy, asBool]) next
theorem bT {p : Prop} [Decidable p] (h : p) : Value.bool (decide p) = .bool true := by rw [decide_eq_true h]
theorem bF {p : Prop} [Decidable p] (h : ¬ p) : Value.bool (decide p) = .bool false := by rw [decide_eq_false h]
theorem W.splitD {os : List Oper} {p : Prop} [Decidable p] (ht : p → W P N ops Q os ((d, .bool true) :: l) w) (hf : ¬ p → W P N ops Q os ((d, .bool false) :: l) w) : W P N ops Q os ((d, .bool (decide p)) :: l) w := by
  by_cases h : p
  · rw [decide_eq_true h]; exact ht h
  · rw [decide_eq_false h]; exact hf h
theorem W.splitB {os : List Oper} {b : Bool} (ht : b = true → W P N ops Q os ((d, .bool true) :: l) w) (hf : b = false → W P N ops Q os ((d, .bool false) :: l) w) : W P N ops Q os ((d, .bool b) :: l) w := by
  cases b with
  | true => exact ht rfl
  | false => exact hf rfl
theorem W.nilCheck {x : Operand} {ad : Addr} (hx : ev l x = some (.pointer (some ad))) (hN : Nat.blt d N = true) (next : W P N ops Q rest ((d, .pointer (some ad)) :: l) w) : W P N ops Q (⟨some d, .nilCheck x, ty, pos, aft, none⟩ :: rest) l w :=
  W.op rfl rfl hN (fun a ha => by simp [execOp, ha.ev hx]) next
theorem W.extract {x : Operand} {vs : Array Value} {i : Nat} {v : Value} (hx : ev l x = some (.tuple vs)) (hi : vs[i]? = some v) (hN : Nat.blt d N = true) (next : W P N ops Q rest ((d, v) :: l) w) : W P N ops Q (⟨some d, .extract x i, ty, pos, aft, none⟩ :: rest) l w :=
  W.op rfl rfl hN (fun a ha => by simp [execOp, ha.ev hx, Instr.extract, hi]) next

/-- A call of a function with a body, by its contract. -/
theorem W.call {f : FuncId} {xs : List Operand} {tys : Array TypeId} {args : List Value} {R : Value → World → Prop} (hc : ∀ args w, (callFunc f args).run P w = .ok (.enter f args) w)
    (hx : evs l xs = some args) (H : Ct P f args.toArray w R) (hN : Nat.blt d N = true) (next : ∀ v w', R v w' → W P N ops Q rest ((d, v) :: l) w') : W P N ops Q (⟨some d, .call ⟨.value (.func f), xs.toArray, tys⟩, ty, pos, aft, none⟩ :: rest) l w :=
  ⟨fun a ha => wpList_plain rfl fun K hK => by
    unfold Oper.wp
    have e : (execOp a.eval ⟨some d, .call ⟨.value (.func f), xs.toArray, tys⟩, ty, pos, aft, none⟩) = callFunc f (#[] ++ xs.toArray.map a.eval ++ #[]) := rfl
    rw [e, hc]
    simp only [Oper.upon, Array.empty_append, Array.append_empty, List.map_toArray, ha.evs hx]
    refine H.out.mono ?_
    rintro e w' ⟨v, rfl, hR⟩
    exact hK _ _ ((next v w' hR).out _ (ha.put (lt_of_blt hN) v))⟩
theorem W.call0 {f : FuncId} {xs : List Operand} {tys : Array TypeId} {args : List Value} {R : Value → World → Prop} (hc : ∀ args w, (callFunc f args).run P w = .ok (.enter f args) w)
    (hx : evs l xs = some args) (H : Ct P f args.toArray w R) (next : ∀ v w', R v w' → W P N ops Q rest l w') : W P N ops Q (⟨none, .call ⟨.value (.func f), xs.toArray, tys⟩, ty, pos, aft, none⟩ :: rest) l w :=
  ⟨fun a ha => wpList_plain rfl fun K hK => by
    unfold Oper.wp
    have e : (execOp a.eval ⟨none, .call ⟨.value (.func f), xs.toArray, tys⟩, ty, pos, aft, none⟩) = callFunc f (#[] ++ xs.toArray.map a.eval ++ #[]) := rfl
    rw [e, hc]
    simp only [Oper.upon, Array.empty_append, Array.append_empty, List.map_toArray, ha.evs hx]
    refine H.out.mono ?_
    rintro e w' ⟨v, rfl, hR⟩
    exact hK _ _ ((next v w' hR).out _ ha)⟩

/-! ### Guards -/
theorem W.wants {o : Oper} {j : Nat} {b : Bool} {oj : Oper} {t : Tmp} (hg : o.guard = some (j, b)) (hj : ops[j]? = some oj) (hd : oj.dst = some t) (hv : look l t = some (.bool b))
    (h : W P N ops Q ({ o with guard := none } :: rest) l w) : W P N ops Q (o :: rest) l w := by
  constructor
  intro a ha
  have h' := h.out a ha
  have hw : Region.wanted o (yielded ops a.tmps) = true := by
    simp [Region.wanted, hg, yielded, hj, hd, ha.mem _ _ hv]
  unfold wpList at h' ⊢
  rw [if_pos hw]
  rw [if_pos (by simp [Region.wanted])] at h'
  exact h'
theorem W.skips {o : Oper} {j : Nat} {b : Bool} {oj : Oper} {t : Tmp} (hg : o.guard = some (j, b)) (hj : ops[j]? = some oj) (hd : oj.dst = some t) (hv : look l t = some (.bool (!b))) (hdst : o.dst = some d) (hN : Nat.blt d N = true)
    (h : W P N ops Q rest ((d, undef) :: l) w) : W P N ops Q (o :: rest) l w := by
  constructor
  intro a ha
  have hw : Region.wanted o (yielded ops a.tmps) = false := by
    simp [Region.wanted, hg, yielded, hj, hd, ha.mem _ _ hv]
  unfold wpList
  rw [if_neg (by simp [hw]), hdst]
  exact h.out _ (ha.put (lt_of_blt hN) undef)
/-- An operation whose guard was not told is left out, too. -/
theorem W.skipsU {o : Oper} {j : Nat} {b : Bool} {oj : Oper} {t : Tmp} (hg : o.guard = some (j, b)) (hj : ops[j]? = some oj) (hd : oj.dst = some t) (hv : look l t = some undef) (hdst : o.dst = some d) (hN : Nat.blt d N = true)
    (h : W P N ops Q rest ((d, undef) :: l) w) : W P N ops Q (o :: rest) l w := by
  constructor
  intro a ha
  have hw : Region.wanted o (yielded ops a.tmps) = false := by
    simp [Region.wanted, hg, yielded, hj, hd, ha.mem _ _ hv, undef]
  unfold wpList
  rw [if_neg (by simp [hw]), hdst]
  exact h.out _ (ha.put (lt_of_blt hN) undef)
end
end
end Go.Proofs.Ythiijdbiikljpaa.KW
