/- Chapter 23's plain model: records, what is read of bytes, what a store holds. -/
import Derived.Test.YthiijdbiikljpaaDisk
import Derived.Test.YthiijdbiikljpaaCod
import Derived.Test.YthiijdbiikljpaaSha
import Derived.Test.YthiijdbiikljpaaGrp
namespace Go.Proofs.Ythiijdbiikljpaa.Mbx
open Go Go.Proofs.Ythiijdbiikljpaa.KW Go.Proofs.Ythiijdbiikljpaa.Words Go.Proofs.Ythiijdbiikljpaa.Sha Go.Proofs.Ythiijdbiikljpaa.Grp Go.Proofs.Ythiijdbiikljpaa.Cod Go.Proofs.Ythiijdbiikljpaa.Disk
set_option linter.unusedVariables false
set_option linter.unusedSimpArgs false
/-! ### records -/
def sum8 (b : List UInt8) : List UInt8 := (shaV b).take 8
theorem sum8_length (b : List UInt8) : (sum8 b).length = 8 := by unfold sum8; rw [List.length_take, shaV_length]; rfl
def recB (b : List UInt8) : List UInt8 := be32 b.length ++ (sum8 b ++ b)
theorem recB_length (b : List UInt8) : (recB b).length = 12 + b.length := by unfold recB; rw [List.length_append, List.length_append, be32_length, sum8_length]; omega
/-- The record at the head of bytes. -/
def rec1 (b : List UInt8) : Option (List UInt8) :=
  if b.length < 12 then none
  else if b.length - 12 < beNat (b.take 4) then none
  else if sum8 ((b.drop 12).take (beNat (b.take 4))) = (b.drop 4).take 8 then some ((b.drop 12).take (beNat (b.take 4))) else none
theorem rec1_len {b x : List UInt8} (h : rec1 b = some x) : 12 + x.length ≤ b.length := by
  unfold rec1 at h
  split at h
  · cases h
  · split at h
    · cases h
    · split at h
      · obtain rfl := Option.some.inj h
        rw [List.length_take, List.length_drop]; omega
      · cases h
theorem rec1_recB {b : List UInt8} (h : b.length < 4294967296) (r : List UInt8) : rec1 (recB b ++ r) = some b := by
  have hl := recB_length b
  have h4 : (recB b ++ r).take 4 = be32 b.length := by
    unfold recB
    rw [List.append_assoc, List.take_append_of_le_length (by rw [be32_length]; exact Nat.le_refl _), List.take_of_length_le (by rw [be32_length]; exact Nat.le_refl _)]
  have hn : beNat ((recB b ++ r).take 4) = b.length := by rw [h4, beNat_be32 _ h]
  have hd4 : (recB b ++ r).drop 4 = sum8 b ++ (b ++ r) := by
    unfold recB
    rw [List.append_assoc, List.drop_append_of_le_length (by rw [be32_length]; exact Nat.le_refl _), List.drop_of_length_le (by rw [be32_length]; exact Nat.le_refl _), List.nil_append, List.append_assoc]
  have hd12 : (recB b ++ r).drop 12 = b ++ r := by
    rw [show 12 = 4 + 8 from rfl, ← List.drop_drop, hd4, List.drop_append_of_le_length (by rw [sum8_length]; exact Nat.le_refl _), List.drop_of_length_le (by rw [sum8_length]; exact Nat.le_refl _), List.nil_append]
  have hx : ((recB b ++ r).drop 12).take b.length = b := by rw [hd12, List.take_append_of_le_length (Nat.le_refl _), List.take_of_length_le (Nat.le_refl _)]
  unfold rec1
  rw [hn, if_neg (by rw [List.length_append]; omega), if_neg (by rw [List.length_append]; omega), hx, if_pos]
  rw [hd4, List.take_append_of_le_length (by rw [sum8_length]; exact Nat.le_refl _), List.take_of_length_le (by rw [sum8_length]; exact Nat.le_refl _)]
/-- A record that is cut short is none. -/
theorem rec1_torn {b : List UInt8} (h : b.length < 4294967296) {k : Nat} (hk : k < (recB b).length) : rec1 ((recB b).take k) = none := by
  have hl := recB_length b
  unfold rec1
  by_cases h12 : ((recB b).take k).length < 12
  · rw [if_pos h12]
  · rw [if_neg h12, if_pos]
    rw [List.length_take] at h12 ⊢
    have h4 : ((recB b).take k).take 4 = be32 b.length := by
      unfold recB
      rw [List.take_take, Nat.min_eq_left (by omega), List.take_append_of_le_length (by rw [be32_length]; exact Nat.le_refl _), List.take_of_length_le (by rw [be32_length]; exact Nat.le_refl _)]
    rw [h4, beNat_be32 _ h]
    omega

/-! ### what a store holds -/
structure Bag where
  l : List BatD
  past : Nat
def hasL (l : List BatD) (r c : Int) : Bool := l.any fun x => decide (x.round = r ∧ x.chain = c)
def mayE (s : Bag) (x : BatD) : Nat := if 1099511627776 < x.round ∨ batE x = 1 then 1 else if batE x ≠ 0 then batE x else if x.round < s.past then 13 else if hasL s.l x.round x.chain = true then 11 else 0
def goneL (l : List BatD) (r : Nat) : List BatD := l.filter fun x => decide ((r : Int) ≤ x.round)
def goneS (s : Bag) (r : Nat) : Bag := if r ≤ s.past then s else ⟨goneL s.l r, r⟩
def takeS (s : Bag) (x : BatD) : Bag := ⟨s.l ++ [x], s.past⟩
def againS (s : Bag) : List UInt8 → Option Bag
  | [] => none
  | t :: y => if t = 1 then (if batRE y = 0 ∧ mayE s (batR y) = 0 then some (takeS s (batR y)) else none)
    else if t = 2 then (if y.length = 8 ∧ beNat y ≤ 1099511627776 then some (goneS s (beNat y)) else none) else none
def heldX (x : BatD) (n : Nat) (name : List UInt8) : List (Int × List UInt8) := ((x.lets.take n).filter fun p => decide (p.1 = name)).map fun p => (x.round, p.2)
def heldL (l : List BatD) (name : List UInt8) : List (Int × List UInt8) := l.flatMap fun x => heldX x x.lets.length name
def fetchL (l : List BatD) (name : List UInt8) (a c : Int) : List Let := ((heldL l name).filter fun h => decide (a ≤ h.1) && decide (h.1 ≤ c)).map fun h => (name, h.2)
theorem heldX_zero (x : BatD) (name : List UInt8) : heldX x 0 name = [] := rfl
theorem heldX_step {x : BatD} {i : Nat} (h : i < x.lets.length) (name : List UInt8) : heldX x (i + 1) name = heldX x i name ++ if (x.lets[i]'h).1 = name then [(x.round, (x.lets[i]'h).2)] else [] := by
  unfold heldX
  rw [List.take_succ_eq_append_getElem h, List.filter_append, List.map_append]
  congr 1
  by_cases e : (x.lets[i]'h).1 = name
  · rw [if_pos e]; simp [e]
  · rw [if_neg e]; simp [e]
theorem heldL_take (l : List BatD) (x : BatD) (name : List UInt8) : heldL (l ++ [x]) name = heldL l name ++ heldX x x.lets.length name := by simp [heldL, List.flatMap_append]
theorem heldX_round {x : BatD} {n : Nat} {name : List UInt8} : ∀ h ∈ heldX x n name, h.1 = x.round := by
  intro h hh
  unfold heldX at hh
  obtain ⟨p, _, rfl⟩ := List.mem_map.1 hh
  rfl
theorem heldL_gone (l : List BatD) (r : Nat) (name : List UInt8) : heldL (goneL l r) name = (heldL l name).filter fun h => decide ((r : Int) ≤ h.1) := by
  induction l with
  | nil => rfl
  | cons x t ih =>
    have e1 : heldL (x :: t) name = heldX x x.lets.length name ++ heldL t name := rfl
    rw [e1, List.filter_append, ← ih]
    unfold goneL
    by_cases h : (r : Int) ≤ x.round
    · rw [List.filter_cons_of_pos (by simpa using h)]
      show heldX x x.lets.length name ++ heldL _ name = _
      congr 1
      exact (List.filter_eq_self.2 fun y hy => by simpa [heldX_round y hy] using h).symm
    · rw [List.filter_cons_of_neg (by simpa using h)]
      have : (heldX x x.lets.length name).filter (fun h => decide ((r : Int) ≤ h.1)) = [] := List.filter_eq_nil_iff.2 fun y hy => by simpa [heldX_round y hy] using h
      rw [this, List.nil_append]
/-- The letters of a list that are to a name, and of which round. -/
theorem hasL_append (l : List BatD) (x : BatD) (r c : Int) : hasL (l ++ [x]) r c = (hasL l r c || decide (x.round = r ∧ x.chain = c)) := by simp [hasL]

/-! ### reading -/
def scan : Nat → Bag → List UInt8 → Bag × Nat
  | 0, s, _ => (s, 0)
  | n + 1, s, b => match rec1 b with
    | none => (s, 0)
    | some x => match againS s x with
      | none => (s, 0)
      | some s' => ((scan n s' (b.drop (12 + x.length))).1, 12 + x.length + (scan n s' (b.drop (12 + x.length))).2)
theorem scan_fuel : ∀ (n m : Nat) (s : Bag) (b : List UInt8), b.length < n → b.length < m → scan n s b = scan m s b := by
  intro n
  induction n with
  | zero => intro m s b h; omega
  | succ n ih =>
    intro m s b h1 h2
    obtain ⟨m, rfl⟩ : ∃ k, m = k + 1 := ⟨m - 1, by omega⟩
    unfold scan
    cases hr : rec1 b with
    | none => rfl
    | some x =>
      simp only
      cases ha : againS s x with
      | none => rfl
      | some s' =>
        simp only
        have := rec1_len hr
        rw [ih m s' _ (by rw [List.length_drop]; omega) (by rw [List.length_drop]; omega)]
def scanS (s : Bag) (b : List UInt8) : Bag × Nat := scan (b.length + 1) s b
theorem scanS_eq (s : Bag) (b : List UInt8) : scanS s b = match rec1 b with
    | none => (s, 0)
    | some x => match againS s x with
      | none => (s, 0)
      | some s' => ((scanS s' (b.drop (12 + x.length))).1, 12 + x.length + (scanS s' (b.drop (12 + x.length))).2) := by
  unfold scanS
  rw [scan]
  cases hr : rec1 b with
  | none => rfl
  | some x =>
    simp only
    cases ha : againS s x with
    | none => rfl
    | some s' =>
      simp only
      have := rec1_len hr
      rw [scan_fuel b.length _ s' _ (by rw [List.length_drop]; omega) (Nat.lt_succ_self _)]
theorem scanS_stop {s : Bag} {b : List UInt8} (h : rec1 b = none ∨ ∃ x, rec1 b = some x ∧ againS s x = none) : scanS s b = (s, 0) := by
  rw [scanS_eq]
  rcases h with h | ⟨x, h, h'⟩
  · rw [h]
  · rw [h]; simp only; rw [h']
theorem scanS_step {s s' : Bag} {b x : List UInt8} (h : rec1 b = some x) (h' : againS s x = some s') : scanS s b = ((scanS s' (b.drop (12 + x.length))).1, 12 + x.length + (scanS s' (b.drop (12 + x.length))).2) := by
  rw [scanS_eq, h]; simp only; rw [h']
theorem scanS_le : ∀ (n : Nat) (s : Bag) (b : List UInt8), b.length ≤ n → (scanS s b).2 ≤ b.length := by
  intro n
  induction n with
  | zero =>
    intro s b h
    have hn : rec1 b = none := by unfold rec1; rw [if_pos (by omega)]
    rw [scanS_stop (.inl hn)]; exact Nat.zero_le _
  | succ n ih =>
    intro s b h
    cases hr : rec1 b with
    | none => rw [scanS_stop (.inl hr)]; exact Nat.zero_le _
    | some x =>
      cases ha : againS s x with
      | none => rw [scanS_stop (.inr ⟨x, hr, ha⟩)]; exact Nat.zero_le _
      | some s' =>
        rw [scanS_step hr ha]
        have h1 := rec1_len hr
        have h2 := ih s' (b.drop (12 + x.length)) (by rw [List.length_drop]; omega)
        rw [List.length_drop] at h2
        show 12 + x.length + _ ≤ _
        omega

/-! ### a store and its disk -/
structure Box where
  D : Dsk
  s : Bag
  owed : Option Nat
def owedI (o : Option Nat) : Int := match o with
  | none => -1
  | some n => (n : Int)
def openB (D : Dsk) : Box := if (scanS ⟨[], 0⟩ D.bs).2 < D.bs.length then ⟨cutD D ((scanS ⟨[], 0⟩ D.bs).2 : Nat), (scanS ⟨[], 0⟩ D.bs).1, if cutE D ((scanS ⟨[], 0⟩ D.bs).2 : Nat) = 0 then none else some (scanS ⟨[], 0⟩ D.bs).2⟩
  else ⟨D, (scanS ⟨[], 0⟩ D.bs).1, none⟩
def settleE (B : Box) : Nat := match B.owed with
  | none => 0
  | some n => cutE B.D (n : Nat)
def settleB (B : Box) : Box := match B.owed with
  | none => B
  | some n => ⟨cutD B.D (n : Nat), B.s, if cutE B.D (n : Nat) = 0 then none else some n⟩
/-- Behind what is settled. -/
def putE (D : Dsk) (x : List UInt8) : Nat := if appE D (recB x) = 0 then synE (appD D (recB x)) else appE D (recB x)
def putD (D : Dsk) (x : List UInt8) : Dsk := if appE D (recB x) = 0 then synD (appD D (recB x)) else appD D (recB x)
def putB (B : Box) (x : List UInt8) : Box := if putE B.D x = 0 then ⟨putD B.D x, B.s, none⟩ else settleB ⟨putD B.D x, B.s, some B.D.bs.length⟩
def keepE (B : Box) (x : List UInt8) : Nat := if settleE B = 0 then putE (settleB B).D x else settleE B
def keepB (B : Box) (x : List UInt8) : Box := if settleE B = 0 then putB (settleB B) x else settleB B
def provedB (inner pubs : List Nat) : Bool := decide (inner.map (timesV 37) = pubs)
def acceptE (B : Box) (x : BatD) (pubs : List Nat) : Nat := if mayE B.s x ≠ 0 then mayE B.s x else if provedB x.inner pubs = false then 10 else keepE B (1 :: batB x)
def acceptB (B : Box) (x : BatD) (pubs : List Nat) : Box := if mayE B.s x ≠ 0 ∨ provedB x.inner pubs = false then B else if keepE B (1 :: batB x) = 0 then ⟨(keepB B (1 :: batB x)).D, takeS B.s x, (keepB B (1 :: batB x)).owed⟩ else keepB B (1 :: batB x)
def expireE (B : Box) (r : Int) : Nat := if r < 0 ∨ 1099511627776 < r then 1 else if r ≤ B.s.past then 0 else keepE B (2 :: be64 r.toNat)
def expireB (B : Box) (r : Int) : Box := if r < 0 ∨ 1099511627776 < r ∨ r ≤ B.s.past then B else if keepE B (2 :: be64 r.toNat) = 0 then ⟨(keepB B (2 :: be64 r.toNat)).D, goneS B.s r.toNat, (keepB B (2 :: be64 r.toNat)).owed⟩ else keepB B (2 :: be64 r.toNat)
theorem settleB_s (B : Box) : (settleB B).s = B.s := by unfold settleB; split <;> rfl
theorem putB_s (B : Box) (x : List UInt8) : (putB B x).s = B.s := by unfold putB; split; rfl; rw [settleB_s]
theorem keepB_s (B : Box) (x : List UInt8) : (keepB B x).s = B.s := by unfold keepB; split; rw [putB_s, settleB_s]; rw [settleB_s]
theorem settleB_owed {B : Box} (h : settleE B = 0) : (settleB B).owed = none := by
  unfold settleE at h; unfold settleB
  cases ho : B.owed with
  | none => simp only; exact ho
  | some n => rw [ho] at h; simp only at h ⊢; rw [if_pos h]
end Go.Proofs.Ythiijdbiikljpaa.Mbx
