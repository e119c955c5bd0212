/- Regions that draw their order: one relation for each operation's value, kept over whatever the others do; each operation is walked once, out of the relations of those that it waits for. -/
import Derived.Test.YthiijdbiikljpaaKh
import Derived.Orders
namespace Go.Proofs.Ythiijdbiikljpaa.KW
open Go Go.RowKit
set_option linter.unusedVariables false
set_option linter.unusedSimpArgs false

theorem Oper.wp_mono2 {P : Program} {o : Oper} {a : Act} {w : World} {K K' : Act → World → Prop} {Q Q' : Exit → Act → World → Prop} (h : ∀ a w, K a w → K' a w) (hq : ∀ e a w, Q e a w → Q' e a w)
    (hh : o.wp P a w K Q) : o.wp P a w K' Q' := by
  unfold Oper.wp at *
  generalize (execOp a.eval o).run P w = r at *
  cases r with
  | ok n w' =>
    cases n <;> simp only [Oper.upon] at hh ⊢ <;>
      first
        | exact h _ _ hh
        | exact Calls.mono hh (fun e w'' he => by
            cases e with
            | returned v => exact h _ _ he
            | panicked c => exact hq _ _ _ he
            | outgrown => obtain ⟨a, w, hx⟩ := he; exact ⟨a, w, hq _ _ _ hx⟩)
        | exact Rows.mono hh (fun _ _ he => h _ _ he)
  | halt x w' => cases x <;> simp only [Oper.upon] at hh ⊢ <;> first | exact hq _ _ _ hh | exact hh

theorem look_append (pre L : Env) (t : Nat) : look (pre ++ L) t = match look pre t with
    | some v => some v
    | none => look L t := by
  induction pre with
  | nil => simp [look]
  | cons p r ih =>
    obtain ⟨k, v⟩ := p
    by_cases e : k = t
    · subst e; rw [List.cons_append, look_self, look_self]
    · rw [List.cons_append, look_ne e, look_ne e, ih]
theorem Sub.back {L : Env} (pre : Env) (h : Sub (pre ++ L) L) : Sub L (pre ++ L) := by
  intro t u hu
  rw [look_append]
  split
  · rename_i v hv
    have := h t v (by rw [look_append, hv])
    rw [hu] at this
    exact this.symm
  · exact hu

/-- The slot that operation j writes, if any. -/
def dstOf (ops : Array Oper) (j : Nat) : Option Nat := (ops[j]?).bind (·.dst)
def push (d : Option Nat) (v : Value) (E : Env) : Env := match d with
  | some d => (d, v) :: E
  | none => E
def Val (d : Option Nat) (L : Env) (v : Value) : Prop := ∀ t, d = some t → look L t = some v
theorem look_push_ne {d : Option Nat} {v : Value} {E : Env} {t : Nat} (h : d ≠ some t) : look (push d v E) t = look E t := by
  cases d with
  | none => rfl
  | some d => exact look_ne (fun c : d = t => h (congrArg some c)) v E
theorem Val_push (d : Option Nat) (v : Value) (E : Env) : Val d (push d v E) v := by
  intro t ht
  subst ht
  exact look_self _ _ _
def Rel (Rs : List (Value → World → Prop)) (j : Nat) : Value → World → Prop := (Rs[j]?).getD (fun _ _ => False)
def dep (o : Oper) (j : Nat) : Bool := o.after.toList.any fun e => Region.binds .any e && Nat.beq e.on j
def depT (ops : Array Oper) : Nat → Oper → Nat → Bool
  | 0, o, j => dep o j
  | f + 1, o, j => dep o j || o.after.toList.any fun e => Region.binds .any e && (match ops[e.on]? with
    | some q => depT ops f q j
    | none => false)
/-- Does operation k wait for operation q? -/
def dT (ops : Array Oper) (k q : Nat) : Bool := match ops[k]? with
  | some o => depT ops ops.size o q
  | none => false
/-- What a step from w to w' of operation k tells: All of it; Pre q to each operation q that may come later; Post q to each that may have come before. -/
def Told (All : World → World → Prop) (Pre Post : Nat → World → World → Prop) (ops : Array Oper) (k : Nat) (w w' : World) : Prop :=
  All w w' ∧ ∀ q, q ≠ k → (dT ops k q = false → Pre q w w') ∧ (dT ops q k = false → Post q w w')
/-- What an operation k has come to: for each other operation i the relation G i between the worlds; its value's own relation. -/
def StepPost (All : World → World → Prop) (Pre Post : Nat → World → World → Prop) (ops : Array Oper) (k N : Nat) (d : Option Nat) (R : Value → World → Prop) (E : Env) (w : World) : Exit → Act → World → Prop :=
  fun e a w' => e = .normal ∧ ∃ v, Has N (push d v E) a ∧ Told All Pre Post ops k w w' ∧ R v w'
def elemB (d : Nat) : List Nat → Bool
  | [] => false
  | k :: r => Nat.beq d k || elemB d r
/-- What these slots held is still there when operation i comes: who writes one of them waits for i. -/
def freeB (keys : List Nat) (i : Nat) : Nat → List Oper → Bool
  | _, [] => true
  | k, o :: r => (match o.dst with
    | some d => !elemB d keys || Nat.beq k i || dep o i
    | none => true) && freeB keys i (k + 1) r
def StepOK (All : World → World → Prop) (Pre Post : Nat → World → World → Prop) (P : Program) (N : Nat) (ops : Array Oper) (os : List Oper) (Rs : List (Value → World → Prop)) (l0 l1 : Env) (w0 : World) (k : Nat) (o : Oper) : Prop :=
  ∀ L w, Pre k w0 w → Sub l0 L → (freeB (l1.map (·.1)) k 0 os = true → Sub l1 L) → (∀ j, dep o j = true → ∃ v, Val (dstOf ops j) L v ∧ Rel Rs j v w) → W P N ops (StepPost All Pre Post ops k N (dstOf ops k) (Rel Rs k) L w) [o] L w
def StepsOK (All : World → World → Prop) (Pre Post : Nat → World → World → Prop) (P : Program) (N : Nat) (ops : Array Oper) (os : List Oper) (Rs : List (Value → World → Prop)) (l0 l1 : Env) (w0 : World) : Nat → List Oper → Prop
  | _, [] => True
  | k, o :: r => StepOK All Pre Post P N ops os Rs l0 l1 w0 k o ∧ StepsOK All Pre Post P N ops os Rs l0 l1 w0 (k + 1) r
def ordB : Nat → List Oper → Bool
  | _, [] => true
  | k, o :: r => (o.after.toList.all fun e => !Region.binds .any e || Nat.blt e.on k) && ordB (k + 1) r
def dstB : List Nat → List Oper → Bool
  | _, [] => true
  | seen, o :: r => match o.dst with
    | some d => !elemB d seen && dstB (d :: seen) r
    | none => dstB seen r
def Stable (G : World → World → Prop) (R : Value → World → Prop) : Prop := ∀ v w w', R v w → G w w' → R v w'
def StablesOK (G : Nat → World → World → Prop) : Nat → List (Value → World → Prop) → Prop
  | _, [] => True
  | k, R :: r => Stable (G k) R ∧ StablesOK G (k + 1) r

theorem Stables_get {G : Nat → World → World → Prop} : ∀ {Rs : List (Value → World → Prop)} {k : Nat}, StablesOK G k Rs → ∀ j, Stable (G (k + j)) (Rel Rs j) := by
  intro Rs
  induction Rs with
  | nil => intro k _ j v w w' h _; exact h.elim
  | cons R r ih =>
    intro k h j
    cases j with
    | zero => exact h.1
    | succ j => have := ih h.2 j
                rwa [show k + 1 + j = k + (j + 1) by omega] at this
theorem Steps_get {All : World → World → Prop} {Pre Post : Nat → World → World → Prop} {P : Program} {N : Nat} {ops : Array Oper} {os0 : List Oper} {Rs : List (Value → World → Prop)} {l0 l1 : Env} {w0 : World} : ∀ {os : List Oper} {k : Nat}, StepsOK All Pre Post P N ops os0 Rs l0 l1 w0 k os → ∀ i o, os[i]? = some o → StepOK All Pre Post P N ops os0 Rs l0 l1 w0 (k + i) o := by
  intro os
  induction os with
  | nil => intro k _ i o h; simp at h
  | cons q r ih =>
    intro k h i o ho
    cases i with
    | zero => obtain rfl := Option.some.inj ho; exact h.1
    | succ i =>
      have := ih h.2 i o (by simpa using ho)
      rwa [show k + 1 + i = k + (i + 1) by omega] at this
theorem ord_get : ∀ {os : List Oper} {k : Nat}, ordB k os = true → ∀ (i : Nat) (o : Oper), os[i]? = some o → ∀ e ∈ o.after, Region.binds .any e = true → e.on < k + i := by
  intro os
  induction os with
  | nil => intro k _ i o h; simp at h
  | cons q r ih =>
    intro k h i o ho e he hb
    simp only [ordB, Bool.and_eq_true] at h
    cases i with
    | zero =>
      obtain rfl := Option.some.inj ho
      have := List.all_eq_true.1 h.1 e (by simpa using he)
      rw [hb] at this
      exact lt_of_blt (by simpa using this)
    | succ i =>
      have := ih h.2 i o (by simpa using ho) e he hb
      omega
theorem elemB_iff (d : Nat) (l : List Nat) : elemB d l = true ↔ d ∈ l := by
  induction l with
  | nil => simp [elemB]
  | cons k r ih => simp [elemB, ih]
theorem dst_get : ∀ {os : List Oper} {seen : List Nat}, dstB seen os = true → ∀ (i : Nat) (o : Oper) (d : Nat), os[i]? = some o → o.dst = some d → d ∉ seen ∧ ∀ (j : Nat) (o' : Oper), j < i → os[j]? = some o' → o'.dst ≠ some d := by
  intro os
  induction os with
  | nil => intro seen _ i o d h; simp at h
  | cons q r ih =>
    intro seen h i o d ho hd
    unfold dstB at h
    split at h
    · rename_i e he
      simp only [Bool.and_eq_true, Bool.not_eq_true'] at h
      cases i with
      | zero =>
        obtain rfl := Option.some.inj ho
        rw [he] at hd
        obtain rfl := Option.some.inj hd
        refine ⟨fun hc => ?_, fun j o' hj => by omega⟩
        rw [(elemB_iff e seen).2 hc] at h
        cases h.1
      | succ i =>
        obtain ⟨h2, h3⟩ := ih h.2 i o d (by simpa using ho) hd
        refine ⟨fun hc => h2 (List.mem_cons_of_mem _ hc), fun j o' hj ho' => ?_⟩
        cases j with
        | zero =>
          obtain rfl := Option.some.inj ho'
          rw [he]
          intro c
          exact h2 (by rw [Option.some.inj c]; exact List.mem_cons_self)
        | succ j => exact h3 j o' (by omega) (by simpa using ho')
    · rename_i he
      cases i with
      | zero =>
        obtain rfl := Option.some.inj ho
        rw [he] at hd
        cases hd
      | succ i =>
        obtain ⟨h2, h3⟩ := ih h i o d (by simpa using ho) hd
        refine ⟨h2, fun j o' hj ho' => ?_⟩
        cases j with
        | zero =>
          obtain rfl := Option.some.inj ho'
          rw [he]
          intro c
          cases c
        | succ j => exact h3 j o' (by omega) (by simpa using ho')

theorem free_get {keys : List Nat} {i : Nat} : ∀ {os : List Oper} {b : Nat}, freeB keys i b os = true → ∀ (k : Nat) (o : Oper) (d : Nat), os[k]? = some o → o.dst = some d → d ∈ keys → b + k = i ∨ dep o i = true := by
  intro os
  induction os with
  | nil => intro b _ k o d h; simp at h
  | cons q r ih =>
    intro b h k o d ho hd hm
    simp only [freeB, Bool.and_eq_true] at h
    cases k with
    | zero =>
      obtain rfl := Option.some.inj ho
      have h1 := h.1
      rw [hd] at h1
      simp only [(elemB_iff d keys).2 hm, Bool.not_true, Bool.false_or, Bool.or_eq_true] at h1
      rcases h1 with h1 | h1
      · exact Or.inl (by have := Nat.eq_of_beq_eq_true h1; omega)
      · exact Or.inr h1
    | succ k =>
      rcases ih h.2 k o d (by simpa using ho) hd hm with h1 | h1
      · exact Or.inl (by omega)
      · exact Or.inr h1
theorem look_mem : ∀ (l : Env) (t : Nat) (u : Value), look l t = some u → t ∈ l.map (·.1) := by
  intro l
  induction l with
  | nil => intro t u h; simp [look] at h
  | cons p r ihl =>
    obtain ⟨k, x⟩ := p
    intro t u h
    by_cases e : k = t
    · subst e; simp
    · rw [look_ne e] at h; simp only [List.map_cons]; exact List.mem_cons_of_mem _ (ihl t u h)

def undone (n : Nat) (listed : Array Bool) : List Nat := (List.range n).filter fun i => !listed.getD i true
theorem undone_set {n : Nat} {listed : Array Bool} {i : Nat} (hs : listed.size = n) (hi : listed.getD i true = false) : (undone n (listed.setIfInBounds i true)).length < (undone n listed).length := by
  have hin : i < n := by
    rcases Nat.lt_or_ge i listed.size with h | h
    · omega
    · simp [Array.getD, Nat.not_lt.2 h] at hi
  have hget : ∀ j, (listed.setIfInBounds i true).getD j true = if j = i then true else listed.getD j true := by
    intro j
    by_cases hj : j < listed.size
    · by_cases e : j = i
      · subst e; simp [Array.getD, hj]
      · rw [if_neg e]
        simp only [Array.getD, Array.size_setIfInBounds, hj, dif_pos]
        exact Array.getElem_setIfInBounds_ne _ (Ne.symm e)
    · by_cases e : j = i
      · subst e; omega
      · rw [if_neg e]; simp [Array.getD, hj]
  have h1 : undone n (listed.setIfInBounds i true) = (undone n listed).filter fun j => !(Nat.beq j i) := by
    unfold undone
    rw [List.filter_filter]
    apply List.filter_congr
    intro j _
    rw [hget j]
    by_cases e : j = i
    · subst e; simp
    · rw [if_neg e]
      have : Nat.beq j i = false := by
        cases hb : Nat.beq j i with
        | false => rfl
        | true => exact absurd (Nat.eq_of_beq_eq_true hb) e
      simp [this]
  rw [h1]
  have hmem : i ∈ undone n listed := by unfold undone; rw [List.mem_filter]; exact ⟨List.mem_range.2 hin, by rw [hi]; rfl⟩
  exact List.length_filter_lt_length_iff_exists.2 ⟨i, hmem, by simp⟩

section
variable {P : Program} {N : Nat} {Q : Exit → Act → World → Prop}

theorem wpAny_done {ops : Array Oper} (fuel : Nat) (listed : Array Bool) (a : Act) (w : World) (hr : Region.ready .any ops listed = []) (h : Q .normal a w) : wpAny P .any ops Q fuel listed a w := by
  cases fuel with
  | zero => exact ⟨hr, h⟩
  | succ n => exact ⟨fun _ => h, fun i hi => by rw [hr] at hi; cases hi⟩
theorem ready_of {ops : Array Oper} {listed : Array Bool} (hord : ordB 0 ops.toList = true) (hs : listed.size = ops.size) {j : Nat} (hn : j < ops.size) (hb : listed.getD j true = false) (ih : ∀ k, k < j → listed.getD k true = true) : j ∈ Region.ready .any ops listed := by
  refine mem_ready.2 ⟨hb, ops[j], Array.getElem?_eq_getElem hn, fun e he hbd => ?_⟩
  have h1 := ord_get hord j ops[j] (by rw [Array.getElem?_toList]; exact Array.getElem?_eq_getElem hn) e he hbd
  have h2 := ih e.on (by omega)
  have h3 : e.on < listed.size := by omega
  simp [Array.getD, h3] at h2 ⊢
  exact h2
theorem all_listed {ops : Array Oper} {listed : Array Bool} (hord : ordB 0 ops.toList = true) (hs : listed.size = ops.size) (hr : Region.ready .any ops listed = []) : ∀ k j, j < k → j < ops.size → listed.getD j true = true := by
  intro k
  induction k with
  | zero => intro j hj; omega
  | succ k ih =>
    intro j hj hn
    cases hb : listed.getD j true with
    | true => rfl
    | false =>
      have hin := ready_of hord hs hn hb (fun k' hk' => ih k' (by omega) (by omega))
      rw [hr] at hin
      cases hin

theorem wpAny_tail {ops : Array Oper} {m : Nat} (hord : ordB 0 ops.toList = true) (htail : ∀ i, m ≤ i → ∀ o, ops[i]? = some o → ∀ j, j < i → depT ops ops.size o j = true) :
    ∀ (r i : Nat), m ≤ i → r = ops.size - i → i ≤ ops.size → ∀ (fuel : Nat) (listed : Array Bool) (a : Act) (w : World), listed.size = ops.size → r ≤ fuel → (∀ j, j < i → listed.getD j true = true) → (∀ k, i ≤ k → k < ops.size → listed.getD k true = false) →
      wpList P ops Q (ops.toList.drop i) a w → wpAny P .any ops Q fuel listed a w := by
  intro r
  induction r with
  | zero =>
    intro i hmi hr hin fuel listed a w hs hf h1 h2 hw
    rw [List.drop_eq_nil_of_le (by simp; omega)] at hw
    refine wpAny_done fuel listed a w ?_ hw
    cases hrd : Region.ready .any ops listed with
    | nil => rfl
    | cons q t =>
      exfalso
      have hq : q ∈ Region.ready .any ops listed := by rw [hrd]; exact List.mem_cons_self
      obtain ⟨h3, o1, ho1, _⟩ := mem_ready.1 hq
      rw [h1 q (by have := (Array.getElem?_eq_some_iff.1 ho1).1; omega)] at h3
      cases h3
  | succ r ih =>
    intro i hmi hr hin fuel listed a w hs hf h1 h2 hw
    cases fuel with
    | zero => omega
    | succ fuel =>
      have hi : i < ops.size := by omega
      have ho : ops[i]? = some ops[i] := Array.getElem?_eq_getElem hi
      have hready := ready_of hord hs hi (h2 i (Nat.le_refl _) hi) h1
      refine ⟨(fun hrd => by rw [hrd] at hready; cases hready), fun q hq => ?_⟩
      have hqi : q = i := by
        obtain ⟨h3, o1, ho1, hall⟩ := mem_ready.1 hq
        have hqn : q < ops.size := (Array.getElem?_eq_some_iff.1 ho1).1
        rcases Nat.lt_trichotomy q i with h | h | h
        · rw [h1 q h] at h3; cases h3
        · exact h
        · exfalso
          -- q waits for someone from i on
          have ht := htail q (by omega) o1 ho1 i h
          have key : ∀ (f : Nat) (x : Nat) (p : Oper), ops[x]? = some p → (∀ e ∈ p.after, Region.binds .any e = true → e.on < i) → x ≤ ops.size → depT ops f p i = true → False := by
            intro f
            induction f with
            | zero =>
              intro x p hp hlt _ hd
              unfold depT dep at hd
              obtain ⟨e, he, hb⟩ := List.any_eq_true.1 hd
              simp only [Bool.and_eq_true] at hb
              have := hlt e (by simpa using he) hb.1
              have := Nat.eq_of_beq_eq_true hb.2
              omega
            | succ f ihf =>
              intro x p hp hlt hxn hd
              unfold depT at hd
              simp only [Bool.or_eq_true] at hd
              rcases hd with hd | hd
              · unfold dep at hd
                obtain ⟨e, he, hb⟩ := List.any_eq_true.1 hd
                simp only [Bool.and_eq_true] at hb
                have := hlt e (by simpa using he) hb.1
                have := Nat.eq_of_beq_eq_true hb.2
                omega
              · obtain ⟨e, he, hb⟩ := List.any_eq_true.1 hd
                simp only [Bool.and_eq_true] at hb
                have h5 := hlt e (by simpa using he) hb.1
                cases hqe : ops[e.on]? with
                | none => rw [hqe] at hb; cases hb.2
                | some r' =>
                  rw [hqe] at hb
                  refine ihf e.on r' hqe (fun e' he' hb' => ?_) (by omega) hb.2
                  have := ord_get hord e.on r' (by rw [Array.getElem?_toList]; exact hqe) e' he' hb'
                  omega
          refine key ops.size q o1 ho1 (fun e he hb => ?_) (by omega) ht
          have h4 := hall e he hb
          rcases Nat.lt_or_ge e.on i with h' | h'
          · exact h'
          · have h6 := ord_get hord q o1 (by rw [Array.getElem?_toList]; exact ho1) e he hb
            have h7 := h2 e.on h' (by omega)
            have h8 : e.on < listed.size := by omega
            simp [Array.getD, h8] at h4 h7
            rw [h4] at h7; cases h7
      subst hqi
      have hdrop : ops.toList.drop q = ops[q] :: ops.toList.drop (q + 1) := by
        rw [List.drop_eq_getElem_cons (by simpa using hi)]
        congr 1
      rw [hdrop] at hw
      have next : ∀ a' w', wpList P ops Q (ops.toList.drop (q + 1)) a' w' → wpAny P .any ops Q fuel (listed.setIfInBounds q true) a' w' := by
        intro a' w' hw'
        refine ih (q + 1) (by omega) (by omega) (by omega) fuel _ a' w' (by simpa using hs) (by omega) (fun j hj => ?_) (fun k hk1 hk2 => ?_) hw'
        · by_cases e : q = j
          · subst e
            have : q < listed.size := by omega
            simp [Array.getD, this]
          · rw [getD_set_ne true e]; exact h1 j (by omega)
        · rw [getD_set_ne true (by omega)]
          exact h2 k (by omega) hk2
      unfold wpOp
      simp only [ho]
      unfold wpList at hw
      split
      · rename_i hwd
        rw [if_pos hwd] at hw
        exact hw.imp (Oper.wp_mono next) id
      · rename_i hwd
        rw [if_neg hwd] at hw
        exact next _ _ hw

theorem depT_listed {ops : Array Oper} {listed : Array Bool} (hord : ordB 0 ops.toList = true) (hc : ∀ (k : Nat) (o : Oper), ops[k]? = some o → listed.getD k true = true → ∀ j, dep o j = true → listed.getD j true = true) :
    ∀ (f : Nat) (o : Oper) (j : Nat), (∀ i, dep o i = true → i < ops.size ∧ listed.getD i true = true) → depT ops f o j = true → listed.getD j true = true := by
  intro f
  induction f with
  | zero => intro o j ho hd; exact (ho j hd).2
  | succ f ih =>
    intro o j ho hd
    unfold depT at hd
    simp only [Bool.or_eq_true] at hd
    rcases hd with hd | hd
    · exact (ho j hd).2
    · obtain ⟨e, he, hb⟩ := List.any_eq_true.1 hd
      simp only [Bool.and_eq_true] at hb
      have h3 : dep o e.on = true := by
        unfold dep
        exact List.any_eq_true.2 ⟨e, he, by simp [hb.1]⟩
      obtain ⟨h1, h2⟩ := ho e.on h3
      cases hqe : ops[e.on]? with
      | none => rw [hqe] at hb; cases hb.2
      | some r =>
        rw [hqe] at hb
        refine ih r j (fun i hi => ?_) hb.2
        have h4 := hc e.on r hqe h2 i hi
        have h5 : i < e.on := by
          unfold dep at hi
          obtain ⟨e', he', hb'⟩ := List.any_eq_true.1 hi
          simp only [Bool.and_eq_true] at hb'
          have := ord_get hord e.on r (by rw [Array.getElem?_toList]; exact hqe) e' (by simpa using he') hb'.1
          have := Nat.eq_of_beq_eq_true hb'.2
          omega
        exact ⟨by omega, h4⟩
theorem dT_listed {ops : Array Oper} {listed : Array Bool} (hord : ordB 0 ops.toList = true) (hc : ∀ (k : Nat) (o : Oper), ops[k]? = some o → listed.getD k true = true → ∀ j, dep o j = true → listed.getD j true = true) {k j : Nat} (hk : ∀ o, ops[k]? = some o → ∀ i, dep o i = true → listed.getD i true = true) (hd : dT ops k j = true) : listed.getD j true = true := by
  unfold dT at hd
  split at hd
  · rename_i o ho
    refine depT_listed hord hc _ o j (fun i hi => ⟨?_, hk o ho i hi⟩) hd
    unfold dep at hi
    obtain ⟨e', he', hb'⟩ := List.any_eq_true.1 hi
    simp only [Bool.and_eq_true] at hb'
    have h1 := ord_get hord k o (by rw [Array.getElem?_toList]; exact ho) e' (by simpa using he') hb'.1
    have h2 := Nat.eq_of_beq_eq_true hb'.2
    have h3 := (Array.getElem?_eq_some_iff.1 ho).1
    omega
  · cases hd

theorem wpAny_rel {All : World → World → Prop} {Pre Post : Nat → World → World → Prop} (At' : ∀ a b c, All a b → All b c → All a c) (Gt : ∀ i a b c, Pre i a b → Pre i b c → Pre i a c) {ops : Array Oper} (m : Nat) {Rs : List (Value → World → Prop)} {l0 l1 : Env} {w0 : World} (hord : ordB 0 ops.toList = true) (hmle : m ≤ ops.size) (htail : ∀ i, m ≤ i → ∀ o, ops[i]? = some o → ∀ j, j < i → depT ops ops.size o j = true) (hdst : dstB (l0.map (·.1)) (ops.toList.take m) = true) (hst : StablesOK Post 0 Rs)
    (steps : StepsOK All Pre Post P N ops (ops.toList.take m) Rs l0 l1 w0 0 (ops.toList.take m)) (fin : ∀ L w, All w0 w → Sub l0 L → (∀ j, j < m → ∃ v, Val (dstOf ops j) L v ∧ Rel Rs j v w) → W P N ops Q (ops.toList.drop m) L w) :
    ∀ (fuel : Nat) (listed : Array Bool) (L : Env) (a : Act) (w : World), listed.size = ops.size → (undone ops.size listed).length ≤ fuel → (All w0 w ∧ ∀ q, q < m → listed.getD q true = false → Pre q w0 w) → Sub l0 L → (∀ j, j < m → listed.getD j true = true → ∃ v, Val (dstOf ops j) L v ∧ Rel Rs j v w) →
      (∀ t u, look l1 t = some u → (∀ k, k < m → listed.getD k true = true → dstOf ops k ≠ some t) → look L t = some u) → (∀ (k : Nat) (o : Oper), ops[k]? = some o → listed.getD k true = true → ∀ j, dep o j = true → listed.getD j true = true) →
      (m < ops.size → listed.getD m true = false) → Has N L a → wpAny P .any ops Q fuel listed a w := by
  have gone : ∀ (listed : Array Bool) (L : Env) (a : Act) (w : World), listed.size = ops.size → Region.ready .any ops listed = [] → (All w0 w ∧ ∀ q, q < m → listed.getD q true = false → Pre q w0 w) → Sub l0 L → (∀ j, j < m → listed.getD j true = true → ∃ v, Val (dstOf ops j) L v ∧ Rel Rs j v w) →
      (m < ops.size → listed.getD m true = false) → Has N L a → Q .normal a w := by
    intro listed L a w hs hr hx hl hv hlast ha
    have all := all_listed hord hs hr
    rcases (show m = ops.size ∨ m < ops.size by omega) with h | h
    · have hw := (fin L w hx.1 hl fun j hj => hv j hj (all (j + 1) j (by omega) (by omega))).out a ha
      rw [List.drop_eq_nil_of_le (by rw [h]; simp)] at hw
      exact hw
    · have h1 := hlast (by omega)
      rw [all (m + 1) m (by omega) (by omega)] at h1
      cases h1
  intro fuel
  induction fuel with
  | zero =>
    intro listed L a w hs hf hx hl hv hk hc hlast ha
    have hr : Region.ready .any ops listed = [] := by
      cases hr : Region.ready .any ops listed with
      | nil => rfl
      | cons i r =>
        exfalso
        have hm : i ∈ Region.ready .any ops listed := by rw [hr]; exact List.mem_cons_self
        obtain ⟨h0, _⟩ := mem_ready.1 hm
        have := undone_set hs h0
        omega
    exact ⟨hr, gone listed L a w hs hr hx hl hv hlast ha⟩
  | succ fuel ih =>
    intro listed L a w hs hf hx hl hv hk hc hlast ha
    refine ⟨fun hr => gone listed L a w hs hr hx hl hv hlast ha, fun i hi => ?_⟩
    obtain ⟨h0, o, ho, hall⟩ := mem_ready.1 hi
    have hin : i < ops.size := (Array.getElem?_eq_some_iff.1 ho).1
    have ho'' : ops.toList[i]? = some o := by rw [Array.getElem?_toList]; exact ho
    have hdeps : ∀ j, dep o j = true → j < i ∧ listed.getD j true = true := by
      intro j hj
      unfold dep at hj
      obtain ⟨e, he, hb⟩ := List.any_eq_true.1 hj
      simp only [Bool.and_eq_true] at hb
      obtain rfl := Nat.eq_of_beq_eq_true hb.2
      have he' : e ∈ o.after := by simpa using he
      have h1 := hall e he' hb.1
      have h2 := ord_get hord i o ho'' e he' hb.1
      have h3 : e.on < listed.size := by omega
      refine ⟨by omega, ?_⟩
      simp [Array.getD, h3] at h1 ⊢
      exact h1
    by_cases him : i < m
    · have ho' : (ops.toList.take m)[i]? = some o := by rw [List.getElem?_take, if_pos him]; exact ho''
      have hstep := Steps_get steps i o ho' L w (by rw [Nat.zero_add]; exact hx.2 i him h0) hl ?_ ?_
      · rw [Nat.zero_add] at hstep
        have hdo : dstOf ops i = o.dst := by simp [dstOf, ho]
        have hw := hstep.out a ha
        have next : ∀ a' w', StepPost All Pre Post ops i N (dstOf ops i) (Rel Rs i) L w .normal a' w' → wpAny P .any ops Q fuel (listed.setIfInBounds i true) a' w' := by
          rintro a' w' ⟨_, v, hA, hX, hR⟩
          refine ih _ _ a' w' (by simpa using hs) (by have := undone_set hs h0; omega) ?hx' ?_ ?_ ?_ ?_ ?_ hA
          case hx' =>
            refine ⟨At' _ _ _ hx.1 hX.1, fun q hqm hq => ?_⟩
            have hqi : q ≠ i := fun e => by
              subst e
              have h6 : q < listed.size := by omega
              simp [Array.getD, h6] at hq
            rw [getD_set_ne true (Ne.symm hqi)] at hq
            refine Gt _ _ _ _ (hx.2 q hqm hq) ((hX.2 q hqi).1 ?_)
            cases hdt : dT ops i q with
            | false => rfl
            | true =>
              have := dT_listed hord hc (k := i) (j := q) (fun o' ho2 j hj => by rw [ho] at ho2; obtain rfl := Option.some.inj ho2; exact (hdeps j hj).2) hdt
              rw [hq] at this; cases this
          · intro t u hu
            have hne : dstOf ops i ≠ some t := by
              intro c
              rw [hdo] at c
              exact (dst_get hdst i o t ho' c).1 (look_mem _ _ _ hu)
            rw [look_push_ne hne]
            exact hl t u hu
          · intro j hj hlj
            by_cases e : j = i
            · subst e; exact ⟨v, Val_push _ _ _, hR⟩
            · have hjl : listed.getD j true = true := by rwa [getD_set_ne true (Ne.symm e)] at hlj
              obtain ⟨u, hu, hr⟩ := hv j hj hjl
              refine ⟨u, ?_, Stables_get hst j _ _ _ hr (by
                rw [Nat.zero_add]
                refine (hX.2 j e).2 ?_
                cases hdt : dT ops j i with
                | false => rfl
                | true =>
                  have := dT_listed hord hc (k := j) (j := i) (fun o' ho2 q hq => hc j o' ho2 hjl q hq) hdt
                  rw [h0] at this; cases this)⟩
              intro t ht
              have hne : dstOf ops i ≠ some t := by
                intro c
                rw [hdo] at c
                have hjn : j < ops.size := by omega
                have hoj : (ops.toList.take m)[j]? = some ops[j] := by rw [List.getElem?_take, if_pos hj, Array.getElem?_toList]; exact Array.getElem?_eq_getElem hjn
                have hdj : ops[j].dst = some t := by simpa [dstOf, hjn] using ht
                rcases Nat.lt_or_ge j i with h | h
                · exact (dst_get hdst i o t ho' c).2 j _ h hoj hdj
                · exact (dst_get hdst j _ t hoj hdj).2 i _ (by omega) ho' c
              rw [look_push_ne hne]
              exact hu t ht
          · intro t u hu hno
            have hne : dstOf ops i ≠ some t := hno i him (by
              have : i < listed.size := by omega
              simp [Array.getD, this])
            rw [look_push_ne hne]
            refine hk t u hu fun k hkn hkl => hno k hkn ?_
            by_cases e : i = k
            · subst e; rw [h0] at hkl; cases hkl
            · rw [getD_set_ne true e]; exact hkl
          · intro k q hq hkl j hj
            by_cases e : i = k
            · subst e
              rw [ho] at hq
              obtain rfl := Option.some.inj hq
              obtain ⟨h1, h2⟩ := hdeps j hj
              rw [getD_set_ne true (by omega)]
              exact h2
            · rw [getD_set_ne true e] at hkl
              have := hc k q hq hkl j hj
              by_cases e2 : i = j
              · subst e2; rw [h0] at this; cases this
              · rw [getD_set_ne true e2]; exact this
          · intro hlt
            rw [getD_set_ne true (by omega)]
            exact hlast hlt
        unfold wpOp
        simp only [ho]
        unfold wpList at hw
        split
        · rename_i hwd
          rw [if_pos hwd] at hw
          rcases hw with hw | ⟨_, hlo⟩
          · refine Or.inl ?_
            have h3 := Oper.wp_mono2 (K' := wpAny P .any ops Q fuel (listed.setIfInBounds i true)) (Q' := fun e a' w' => e = .normal) next (fun e a' w' h => h.1) hw
            have quiet : ∀ {K : Act → World → Prop}, o.wp P a w K (fun e _ _ => e = .normal) → o.wp P a w K Q := by
              intro K hh
              unfold Oper.wp at *
              generalize (execOp a.eval o).run P w = r at *
              cases r with
              | ok n w' =>
                cases n <;> simp only [Oper.upon] at hh ⊢ <;>
                  first
                    | exact hh
                    | exact Calls.mono hh (fun e w'' he => by
                        cases e with
                        | returned v => exact he
                        | panicked c => cases he
                        | outgrown => obtain ⟨_, _, hx⟩ := he; cases hx)
              | halt x w' => cases x <;> simp only [Oper.upon] at hh ⊢ <;> first | (cases hh; done) | exact hh
            exact quiet h3
          · obtain ⟨_, _, hx, _⟩ := hlo
            cases hx
        · rename_i hwd
          rw [if_neg hwd] at hw
          exact next _ _ hw
      · intro hfree t u hu
        refine hk t u hu fun k hkn hkl c => ?_
        have hkn' : k < ops.size := by omega
        have hok : (ops.toList.take m)[k]? = some ops[k] := by rw [List.getElem?_take, if_pos hkn, Array.getElem?_toList]; exact Array.getElem?_eq_getElem hkn'
        have hdk : ops[k].dst = some t := by simpa [dstOf, hkn'] using c
        rcases free_get hfree k _ t hok hdk (look_mem _ _ _ hu) with h1 | h1
        · obtain rfl : k = i := by omega
          rw [h0] at hkl; cases hkl
        · rw [Nat.zero_add] at h1
          have := hc k ops[k] (Array.getElem?_eq_getElem hkn') hkl i h1
          rw [h0] at this; cases this
      · intro j hj
        obtain ⟨h1, h2⟩ := hdeps j hj
        exact hv j (by omega) h2
    · have hi0 : m ≤ i := by omega
      have listedT : ∀ j, j < i → listed.getD j true = true := by
        intro j hj
        have ht := htail i hi0 o ho j hj
        have key : ∀ (f : Nat) (q : Oper), (∀ e ∈ q.after, Region.binds .any e = true → e.on < ops.size ∧ listed.getD e.on true = true) → depT ops f q j = true → listed.getD j true = true := by
          intro f
          induction f with
          | zero =>
            intro q hq hd
            unfold depT dep at hd
            obtain ⟨e, he, hb⟩ := List.any_eq_true.1 hd
            simp only [Bool.and_eq_true] at hb
            obtain rfl := Nat.eq_of_beq_eq_true hb.2
            exact (hq e (by simpa using he) hb.1).2
          | succ f ihf =>
            intro q hq hd
            unfold depT at hd
            simp only [Bool.or_eq_true] at hd
            rcases hd with hd | hd
            · unfold dep at hd
              obtain ⟨e, he, hb⟩ := List.any_eq_true.1 hd
              simp only [Bool.and_eq_true] at hb
              obtain rfl := Nat.eq_of_beq_eq_true hb.2
              exact (hq e (by simpa using he) hb.1).2
            · obtain ⟨e, he, hb⟩ := List.any_eq_true.1 hd
              simp only [Bool.and_eq_true] at hb
              obtain ⟨h1, h2⟩ := hq e (by simpa using he) hb.1
              cases hqe : ops[e.on]? with
              | none => rw [hqe] at hb; cases hb.2
              | some r =>
                rw [hqe] at hb
                refine ihf r (fun e' he' hb' => ?_) hb.2
                have h3 : dep r e'.on = true := by
                  unfold dep
                  exact List.any_eq_true.2 ⟨e', by simpa using he', by simp [hb']⟩
                have h4 := ord_get hord e.on r (by rw [Array.getElem?_toList]; exact hqe) e' he' hb'
                exact ⟨by omega, hc e.on r hqe h2 _ h3⟩
        refine key ops.size o (fun e he hb => ?_) ht
        have h3 : dep o e.on = true := by
          unfold dep
          exact List.any_eq_true.2 ⟨e, by simpa using he, by simp [hb]⟩
        obtain ⟨h1, h2⟩ := hdeps e.on h3
        exact ⟨by omega, h2⟩
      have him : i = m := by
        rcases Nat.lt_or_ge m i with h | h
        · have h1 := listedT m h
          rw [hlast (by omega)] at h1
          cases h1
        · omega
      subst him
      have hw := (fin L w hx.1 hl fun j hj => hv j hj (listedT j hj)).out a ha
      have hbeyond : ∀ k, i ≤ k → k < ops.size → listed.getD k true = false := by
        intro k hk1 hk2
        cases hb : listed.getD k true with
        | false => rfl
        | true =>
          exfalso
          rcases Nat.eq_or_lt_of_le hk1 with h | h
          · subst h; rw [h0] at hb; cases hb
          · have ht := htail k (by omega) ops[k] (Array.getElem?_eq_getElem hk2) i h
            have key : ∀ (f : Nat) (x : Nat) (q : Oper), ops[x]? = some q → listed.getD x true = true → depT ops f q i = true → listed.getD i true = true := by
              intro f
              induction f with
              | zero => intro x q hq hx hd; exact hc x q hq hx i hd
              | succ f ihf =>
                intro x q hq hx hd
                unfold depT at hd
                simp only [Bool.or_eq_true] at hd
                rcases hd with hd | hd
                · exact hc x q hq hx i hd
                · obtain ⟨e, he, hb⟩ := List.any_eq_true.1 hd
                  simp only [Bool.and_eq_true] at hb
                  cases hqe : ops[e.on]? with
                  | none => rw [hqe] at hb; cases hb.2
                  | some r =>
                    rw [hqe] at hb
                    have h3 : dep q e.on = true := by
                      unfold dep
                      exact List.any_eq_true.2 ⟨e, by simpa using he, by simp [hb.1]⟩
                    exact ihf e.on r hqe (hc x q hq hx _ h3) hb.2
            have h1 := key ops.size k ops[k] (Array.getElem?_eq_getElem hk2) hb ht
            rw [h0] at h1; cases h1
      have tail := wpAny_tail (P := P) (Q := Q) hord htail (ops.size - i) i (Nat.le_refl _) rfl (by omega) (fuel + 1) listed a w hs (by
        have hle : ops.size - i ≤ (undone ops.size listed).length := by
          have : ((List.range ops.size).filter fun k => decide (i ≤ k)).length ≤ (undone ops.size listed).length := by
            unfold undone
            refine List.Sublist.length_le ?_
            have e : ((List.range ops.size).filter fun k => decide (i ≤ k)) = ((List.range ops.size).filter fun k => !listed.getD k true).filter fun k => decide (i ≤ k) := by
              rw [List.filter_filter]
              apply List.filter_congr
              intro k hk
              have hk' := List.mem_range.1 hk
              by_cases h : i ≤ k
              · rw [hbeyond k h hk']; simp [h]
              · simp [h]
            rw [e]
            exact List.filter_sublist
          have e2 : ((List.range ops.size).filter fun k => decide (i ≤ k)).length = ops.size - i := by
            obtain ⟨r, hr⟩ : ∃ r, ops.size = i + r := ⟨ops.size - i, by omega⟩
            rw [hr, List.range_add, List.filter_append]
            have h1 : (List.range i).filter (fun k => decide (i ≤ k)) = [] := by
              apply List.filter_eq_nil_iff.2
              intro k hk
              have := List.mem_range.1 hk
              simp; omega
            have h2 : ((List.range r).map (fun x => i + x)).filter (fun k => decide (i ≤ k)) = (List.range r).map (fun x => i + x) := by
              apply List.filter_eq_self.2
              intro k hk
              obtain ⟨x, _, rfl⟩ := List.mem_map.1 hk
              simp
            rw [h1, h2]; simp
          omega
        omega) listedT hbeyond hw
      exact tail.2 i hi

def depsT (ops : Array Oper) (o : Oper) : Nat → Bool
  | 0 => true
  | j + 1 => depT ops ops.size o j && depsT ops o j
theorem depsT_get {ops : Array Oper} {o : Oper} : ∀ {m : Nat}, depsT ops o m = true → ∀ j, j < m → depT ops ops.size o j = true := by
  intro m
  induction m with
  | zero => intro _ j hj; omega
  | succ m ih =>
    intro h j hj
    simp only [depsT, Bool.and_eq_true] at h
    by_cases e : j = m
    · subst e; exact h.1
    · exact ih h.2 j (by omega)
def tailB (ops : Array Oper) : Nat → List Oper → Bool
  | _, [] => true
  | i, o :: r => depsT ops o i && tailB ops (i + 1) r
theorem tailB_get {ops : Array Oper} : ∀ {os : List Oper} {b : Nat}, tailB ops b os = true → ∀ (i : Nat) (o : Oper), os[i]? = some o → depsT ops o (b + i) = true := by
  intro os
  induction os with
  | nil => intro b _ i o h; simp at h
  | cons q r ih =>
    intro b h i o ho
    simp only [tailB, Bool.and_eq_true] at h
    cases i with
    | zero => obtain rfl := Option.some.inj ho; exact h.1
    | succ i =>
      have := ih h.2 i o (by simpa using ho)
      rwa [show b + 1 + i = b + (i + 1) by omega] at this
def lastB (ops : Array Oper) (m : Nat) : Bool := Nat.ble m ops.size && tailB ops m (ops.toList.drop m)
/-- A region that draws its order: each of the first m operations is walked once; what is left, one that waits for all others, comes last. -/
theorem C.regionAnyF {id : Nat} {ops : Array Oper} (All : World → World → Prop) (Pre Post : Nat → World → World → Prop) (At' : ∀ a b c, All a b → All b c → All a c) (Ae : ∀ a b, Ext a b → All a b) (Gt : ∀ i a b c, Pre i a b → Pre i b c → Pre i a c) (Ge : ∀ i a b, Ext a b → Pre i a b) {l : Env} {w : World} (m : Nat) (Rs : List (Value → World → Prop)) (l0 l1 : Env) (hl : Sub (l1 ++ l0) l) (hl1 : Sub l1 (l1 ++ l0)) (hl0 : Sub l0 (l1 ++ l0)) (hm : P.follows .mixedOrders = true) (hord : ordB 0 ops.toList = true) (hlast : lastB ops m = true) (hdst : dstB (l0.map (·.1)) (ops.toList.take m) = true) (hst : StablesOK Post 0 Rs)
    (steps : StepsOK All Pre Post P N ops (ops.toList.take m) Rs l0 l1 w 0 (ops.toList.take m)) (fin : ∀ L w', All w w' → Sub l0 L → (∀ j, j < m → ∃ v, Val (dstOf ops j) L v ∧ Rel Rs j v w') → W P N ops Q (ops.toList.drop m) L w') :
    C P N (.region id ops true) Q l w := by
  unfold lastB at hlast
  simp only [Bool.and_eq_true] at hlast
  have hmle := Nat.le_of_ble_eq_true hlast.1
  have htail : ∀ i, m ≤ i → ∀ o, ops[i]? = some o → ∀ j, j < i → depT ops ops.size o j = true := by
    intro i hi o ho j hj
    have := tailB_get hlast.2 (i - m) o (by rw [List.getElem?_drop, show m + (i - m) = i by omega, Array.getElem?_toList]; exact ho)
    rw [show m + (i - m) = i by omega] at this
    exact depsT_get this j hj
  constructor
  intro a ha
  refine wp_region_any hm (wpAny_rel At' Gt m (l1 := l1) hord hmle htail hdst hst steps fin ops.size _ (l1 ++ l0) a _ (by simp) ?_ ?_ hl0 ?_ ?_ ?_ ?_ (ha.sub hl))
  · unfold undone
    exact Nat.le_trans (List.length_filter_le _ _) (by simp)
  · exact ⟨Ae _ _ ⟨rfl, rfl, rfl, Nat.le_refl _, fun _ _ _ => rfl⟩, fun q _ _ => Ge _ _ _ ⟨rfl, rfl, rfl, Nat.le_refl _, fun _ _ _ => rfl⟩⟩
  · intro j hj h
    have hj' : j < ops.size := by omega
    simp [Array.getD, hj'] at h
  · intro t u hu _
    exact hl1 t u hu
  · intro k q hq h
    have hk : k < ops.size := (Array.getElem?_eq_some_iff.1 hq).1
    simp [Array.getD, hk] at h
  · intro h
    simp [Array.getD, h]

theorem C.regionAnyG {id : Nat} (G : World → World → Prop) (Gt : ∀ a b c, G a b → G b c → G a c) (Ge : ∀ a b, Ext a b → G a b) {ops : Array Oper} {l : Env} {w : World} (m : Nat) (Rs : List (Value → World → Prop)) (l0 l1 : Env) (hl : Sub (l1 ++ l0) l) (hl1 : Sub l1 (l1 ++ l0)) (hl0 : Sub l0 (l1 ++ l0)) (hm : P.follows .mixedOrders = true) (hord : ordB 0 ops.toList = true) (hlast : lastB ops m = true) (hdst : dstB (l0.map (·.1)) (ops.toList.take m) = true) (hst : StablesOK (fun _ => G) 0 Rs)
    (steps : StepsOK G (fun _ => G) (fun _ => G) P N ops (ops.toList.take m) Rs l0 l1 w 0 (ops.toList.take m)) (fin : ∀ L w', G w w' → Sub l0 L → (∀ j, j < m → ∃ v, Val (dstOf ops j) L v ∧ Rel Rs j v w') → W P N ops Q (ops.toList.drop m) L w') :
    C P N (.region id ops true) Q l w :=
  C.regionAnyF G (fun _ => G) (fun _ => G) Gt Ge (fun _ => Gt) (fun _ => Ge) m Rs l0 l1 hl hl1 hl0 hm hord hlast hdst hst steps fin
theorem C.regionAny {id : Nat} {ops : Array Oper} {l : Env} {w : World} (m : Nat) (Rs : List (Value → World → Prop)) (l0 l1 : Env) (hl : Sub (l1 ++ l0) l) (hl1 : Sub l1 (l1 ++ l0)) (hl0 : Sub l0 (l1 ++ l0)) (hm : P.follows .mixedOrders = true) (hord : ordB 0 ops.toList = true) (hlast : lastB ops m = true) (hdst : dstB (l0.map (·.1)) (ops.toList.take m) = true) (hst : StablesOK (fun _ => Ext) 0 Rs)
    (steps : StepsOK Ext (fun _ => Ext) (fun _ => Ext) P N ops (ops.toList.take m) Rs l0 l1 w 0 (ops.toList.take m)) (fin : ∀ L w', Ext w w' → Sub l0 L → (∀ j, j < m → ∃ v, Val (dstOf ops j) L v ∧ Rel Rs j v w') → W P N ops Q (ops.toList.drop m) L w') :
    C P N (.region id ops true) Q l w :=
  C.regionAnyG Ext (fun _ _ _ h g => h.ext g) (fun _ _ h => h) m Rs l0 l1 hl hl1 hl0 hm hord hlast hdst hst steps fin

/-- The begin of a step: what it looks at, told outright. -/
theorem W.step {All : World → World → Prop} {Pre Post : Nat → World → World → Prop} {k : Nat} {ops : Array Oper} {d : Option Nat} {R : Value → World → Prop} {os : List Oper} {L : Env} {w : World} (pre : Env) (h : Sub (pre ++ L) L) (next : W P N ops (StepPost All Pre Post ops k N d R (pre ++ L) w) os (pre ++ L) w) : W P N ops (StepPost All Pre Post ops k N d R L w) os L w := by
  constructor
  intro a ha
  have h1 := next.out a (ha.sub h)
  have mono : ∀ (os : List Oper) (a : Act) (w' : World), wpList P ops (StepPost All Pre Post ops k N d R (pre ++ L) w) os a w' → wpList P ops (StepPost All Pre Post ops k N d R L w) os a w' := by
    have hpost : ∀ e a w', StepPost All Pre Post ops k N d R (pre ++ L) w e a w' → StepPost All Pre Post ops k N d R L w e a w' := by
      rintro e a w' ⟨he, v, hA, hX, hR⟩
      refine ⟨he, v, hA.sub ?_, hX, hR⟩
      intro t u hu
      by_cases hc : d = some t
      · subst hc
        have h1 := Val_push (some t) v (pre ++ L) t rfl
        have h2 := Val_push (some t) v L t rfl
        first | (rw [h1] at hu; rw [h2]; exact hu) | (rw [h2] at hu; rw [h1]; exact hu)
      · rw [look_push_ne hc] at hu ⊢; exact Sub.back pre h t u hu
    intro os
    induction os with
    | nil => intro a w' h; exact hpost _ _ _ h
    | cons o r ih =>
      intro a w' h
      unfold wpList at h ⊢
      split
      · rename_i hw
        rw [if_pos hw] at h
        rcases h with h | ⟨h1, x, y, h2⟩
        · exact Or.inl (Oper.wp_mono2 (fun a w => ih a w) hpost h)
        · exact Or.inr ⟨h1, x, y, hpost _ _ _ h2⟩
      · rename_i hw
        rw [if_neg hw] at h
        exact ih _ _ h
  exact mono os a w h1
theorem At.weaken {e : Exit} {l' l : Env} {w : World} (s : Sub l' l) (h : At P N Q e l' w) : At P N Q e l w := ⟨fun a ha => h.out a (ha.sub s)⟩
theorem At.stepF {All : World → World → Prop} {Pre Post : Nat → World → World → Prop} {ops : Array Oper} {k d : Nat} {v : Value} {R : Value → World → Prop} {E : Env} {w w' : World} (hX : Told All Pre Post ops k w w') (hR : R v w') : At P N (StepPost All Pre Post ops k N (some d) R E w) .normal ((d, v) :: E) w' := ⟨fun a ha => ⟨rfl, v, ha, hX, hR⟩⟩
theorem At.step {G : World → World → Prop} {ops : Array Oper} {k d : Nat} {v : Value} {R : Value → World → Prop} {E : Env} {w w' : World} (hX : G w w') (hR : R v w') : At P N (StepPost G (fun _ => G) (fun _ => G) ops k N (some d) R E w) .normal ((d, v) :: E) w' := At.stepF ⟨hX, fun _ _ => ⟨fun _ => hX, fun _ => hX⟩⟩ hR
end
/-- of an operation that writes no slot. -/
theorem At.stepFN {P : Program} {N : Nat} {All : World → World → Prop} {Pre Post : Nat → World → World → Prop} {ops : Array Oper} {k : Nat} {R : Value → World → Prop} {E : Env} {w w' : World} (hX : Told All Pre Post ops k w w') (hR : R (.bool false) w') : At P N (StepPost All Pre Post ops k N none R E w) .normal E w' := ⟨fun a ha => ⟨rfl, _, ha, hX, hR⟩⟩
/-- Operation k may change the blocks B k: what all may change; what those may that can come before i; what those may that can come after it. -/
def FamAll (B : Nat → Nat → Prop) : World → World → Prop := Chg (fun b => ∃ k, B k b)
def FamPre (ops : Array Oper) (B : Nat → Nat → Prop) (i : Nat) : World → World → Prop := Chg (fun b => ∃ k, k ≠ i ∧ dT ops k i = false ∧ B k b)
def FamPost (ops : Array Oper) (B : Nat → Nat → Prop) (i : Nat) : World → World → Prop := Chg (fun b => ∃ k, k ≠ i ∧ dT ops i k = false ∧ B k b)
theorem Fam.of {ops : Array Oper} {B : Nat → Nat → Prop} (k : Nat) {a b : World} (h : Chg (B k) a b) : Told (FamAll B) (FamPre ops B) (FamPost ops B) ops k a b :=
  ⟨h.mono fun q hq => ⟨k, hq⟩, fun i hi => ⟨fun hd => h.mono fun q hq => ⟨k, Ne.symm hi, hd, hq⟩, fun hd => h.mono fun q hq => ⟨k, Ne.symm hi, hd, hq⟩⟩⟩
theorem Fam.ofExt {ops : Array Oper} {B : Nat → Nat → Prop} {k : Nat} {a b : World} (h : Ext a b) : Told (FamAll B) (FamPre ops B) (FamPost ops B) ops k a b := Fam.of k (h.mono fun _ c => c.elim)
theorem FamPre.ext {ops : Array Oper} {B : Nat → Nat → Prop} {i : Nat} {a b : World} (h : FamPre ops B i a b) (hn : ∀ k q, k ≠ i → dT ops k i = false → B k q → False) : Ext a b := Chg.mono h fun q ⟨k, h1, h2, h3⟩ => hn k q h1 h2 h3
theorem FamPost.ext {ops : Array Oper} {B : Nat → Nat → Prop} {i : Nat} {a b : World} (h : FamPost ops B i a b) (hn : ∀ k q, k ≠ i → dT ops i k = false → B k q → False) : Ext a b := Chg.mono h fun q ⟨k, h1, h2, h3⟩ => hn k q h1 h2 h3
theorem dT_absurd {b : Bool} (h : b = false) (h' : b = true) : False := by rw [h] at h'; cases h'
theorem C.regionAnyB {P : Program} {N : Nat} {Q : Exit → Act → World → Prop} {id : Nat} (B : Nat → Nat → Prop) {ops : Array Oper} {l : Env} {w : World} (m : Nat) (Rs : List (Value → World → Prop)) (l0 l1 : Env) (hl : Sub (l1 ++ l0) l) (hl1 : Sub l1 (l1 ++ l0)) (hl0 : Sub l0 (l1 ++ l0)) (hm : P.follows .mixedOrders = true) (hord : ordB 0 ops.toList = true) (hlast : lastB ops m = true) (hdst : dstB (l0.map (·.1)) (ops.toList.take m) = true) (hst : StablesOK (FamPost ops B) 0 Rs)
    (steps : StepsOK (FamAll B) (FamPre ops B) (FamPost ops B) P N ops (ops.toList.take m) Rs l0 l1 w 0 (ops.toList.take m)) (fin : ∀ L w', FamAll B w w' → Sub l0 L → (∀ j, j < m → ∃ v, Val (dstOf ops j) L v ∧ Rel Rs j v w') → W P N ops Q (ops.toList.drop m) L w') :
    C P N (.region id ops true) Q l w :=
  C.regionAnyF (FamAll B) (FamPre ops B) (FamPost ops B) (fun _ _ _ h g => Chg.trans h g) (fun _ _ h => Chg.mono h fun _ c => c.elim) (fun _ _ _ _ h g => Chg.trans h g) (fun _ _ _ h => Chg.mono h fun _ c => c.elim) m Rs l0 l1 hl hl1 hl0 hm hord hlast hdst hst steps fin
/-- Two operations, the second waiting for the first, that lead a part of the world from L0 over L1 to L2, among others that leave it. -/
def ChPre (S : Nat → Prop) (L0 L1 : World → Prop) (i1 i2 q : Nat) (a b : World) : Prop := Chg S a b ∧ (q = i1 → L0 a → L0 b) ∧ (q = i2 → (L0 a → L0 b ∨ L1 b) ∧ (L1 a → L1 b))
def ChPost (S : Nat → Prop) (L1 L2 : World → Prop) (i1 i2 q : Nat) (a b : World) : Prop := Chg S a b ∧ (q = i1 → L1 a ∨ L2 a → L1 b ∨ L2 b) ∧ (q = i2 → L2 a → L2 b)
theorem ChPre.trans {S : Nat → Prop} {L0 L1 : World → Prop} {i1 i2 q : Nat} {a b c : World} (h : ChPre S L0 L1 i1 i2 q a b) (g : ChPre S L0 L1 i1 i2 q b c) : ChPre S L0 L1 i1 i2 q a c :=
  ⟨h.1.trans g.1, fun e x => g.2.1 e (h.2.1 e x), fun e => ⟨fun x => ((h.2.2 e).1 x).elim (g.2.2 e).1 fun y => Or.inr ((g.2.2 e).2 y), fun x => (g.2.2 e).2 ((h.2.2 e).2 x)⟩⟩
theorem Chain.refl {S : Nat → Prop} {L0 L1 L2 : World → Prop} {i1 i2 k : Nat} {ops : Array Oper} (a : World) : Told (Chg S) (ChPre S L0 L1 i1 i2) (ChPost S L1 L2 i1 i2) ops k a a :=
  ⟨Chg.refl _ _, fun q _ => ⟨fun _ => ⟨Chg.refl _ _, fun _ x => x, fun _ => ⟨Or.inl, fun x => x⟩⟩, fun _ => ⟨Chg.refl _ _, fun _ x => x, fun _ x => x⟩⟩⟩
theorem Chain.ofExt {S : Nat → Prop} {L0 L1 L2 : World → Prop} {i1 i2 k : Nat} {ops : Array Oper} (e0 : ∀ a b, L0 a → Ext a b → L0 b) (e1 : ∀ a b, L1 a → Ext a b → L1 b) (e2 : ∀ a b, L2 a → Ext a b → L2 b) {a b : World} (h : Ext a b) : Told (Chg S) (ChPre S L0 L1 i1 i2) (ChPost S L1 L2 i1 i2) ops k a b :=
  ⟨h.mono fun _ c => c.elim, fun q _ => ⟨fun _ => ⟨h.mono fun _ c => c.elim, fun _ x => e0 _ _ x h, fun _ => ⟨fun x => Or.inl (e0 _ _ x h), fun x => e1 _ _ x h⟩⟩, fun _ => ⟨h.mono fun _ c => c.elim, fun _ x => x.imp (fun y => e1 _ _ y h) (fun y => e2 _ _ y h), fun _ x => e2 _ _ x h⟩⟩⟩
theorem Chain.one {S : Nat → Prop} {L0 L1 L2 : World → Prop} {i1 i2 : Nat} {ops : Array Oper} (hd : dT ops i2 i1 = true) {a b : World} (hc : Chg S a b) (h1 : L1 b) : Told (Chg S) (ChPre S L0 L1 i1 i2) (ChPost S L1 L2 i1 i2) ops i1 a b :=
  ⟨hc, fun q hq => ⟨fun _ => ⟨hc, fun e => absurd e hq, fun _ => ⟨fun _ => Or.inr h1, fun _ => h1⟩⟩, fun hn => ⟨hc, fun _ _ => Or.inl h1, fun e => by subst e; exact (dT_absurd hn hd).elim⟩⟩⟩
theorem Chain.two {S : Nat → Prop} {L0 L1 L2 : World → Prop} {i1 i2 : Nat} {ops : Array Oper} (hd : dT ops i2 i1 = true) {a b : World} (hc : Chg S a b) (h2 : L2 b) : Told (Chg S) (ChPre S L0 L1 i1 i2) (ChPost S L1 L2 i1 i2) ops i2 a b :=
  ⟨hc, fun q hq => ⟨fun hn => ⟨hc, fun e => by subst e; exact (dT_absurd hn hd).elim, fun e => absurd e hq⟩, fun _ => ⟨hc, fun _ _ => Or.inr h2, fun _ _ => h2⟩⟩⟩
theorem C.regionAnyC {P : Program} {N : Nat} {Q : Exit → Act → World → Prop} {id : Nat} (S : Nat → Prop) (L0 L1 L2 : World → Prop) (i1 i2 : Nat) (e0 : ∀ a b, L0 a → Ext a b → L0 b) (e1 : ∀ a b, L1 a → Ext a b → L1 b) {ops : Array Oper} {l : Env} {w : World} (m : Nat) (Rs : List (Value → World → Prop)) (l0 l1 : Env) (hl : Sub (l1 ++ l0) l) (hl1 : Sub l1 (l1 ++ l0)) (hl0 : Sub l0 (l1 ++ l0)) (hm : P.follows .mixedOrders = true) (hord : ordB 0 ops.toList = true) (hlast : lastB ops m = true) (hdst : dstB (l0.map (·.1)) (ops.toList.take m) = true) (hst : StablesOK (ChPost S L1 L2 i1 i2) 0 Rs)
    (steps : StepsOK (Chg S) (ChPre S L0 L1 i1 i2) (ChPost S L1 L2 i1 i2) P N ops (ops.toList.take m) Rs l0 l1 w 0 (ops.toList.take m)) (fin : ∀ L w', Chg S w w' → Sub l0 L → (∀ j, j < m → ∃ v, Val (dstOf ops j) L v ∧ Rel Rs j v w') → W P N ops Q (ops.toList.drop m) L w') :
    C P N (.region id ops true) Q l w :=
  C.regionAnyF (Chg S) (ChPre S L0 L1 i1 i2) (ChPost S L1 L2 i1 i2) (fun _ _ _ h g => Chg.trans h g) (fun _ _ h => Chg.mono h fun _ c => c.elim) (fun _ _ _ _ h g => ChPre.trans h g) (fun _ _ _ h => ⟨Chg.mono h fun _ c => c.elim, fun _ x => e0 _ _ x h, fun _ => ⟨fun x => Or.inl (e0 _ _ x h), fun x => e1 _ _ x h⟩⟩) m Rs l0 l1 hl hl1 hl0 hm hord hlast hdst hst steps fin
end Go.Proofs.Ythiijdbiikljpaa.KW
