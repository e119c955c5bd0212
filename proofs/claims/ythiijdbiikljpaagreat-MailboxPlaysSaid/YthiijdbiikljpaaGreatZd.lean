/- Chapter 23's plain model: records, what is read of bytes, what a store holds. Lists whose elements take several cells and may lead on into memory: what cells read as, rows of such that a call owns. Maps in memory: what a block that is a map holds, its entries in their order; and the walk's lemmas on them. More operations on bytes: of strings, copies. Package slices' functions that chapter 17 uses. -/
import Derived.Test.YthiijdbiikljpaaGreatZb
import Derived.Test.YthiijdbiikljpaaGreatZc
import Derived.DeepKeys4
import Derived.Maps.RangeRun
import Derived.Lib.ConvBytes
import Derived.Lib.AppendStr
import Derived.Laws.IdiomCopy
import Derived.Lib.AppendZerosOnto
import Derived.Laws.Concat
import Derived.Laws.Pointers
import Derived.Test.YthiijdbiikljpaaGreatZa
namespace Go.Proofs.YthiijdbiikljpaaGreat.Mbx
open Go Go.Proofs.YthiijdbiikljpaaGreat.KW Go.Proofs.YthiijdbiikljpaaGreat.Words Go.Proofs.YthiijdbiikljpaaGreat.Sha Go.Proofs.YthiijdbiikljpaaGreat.Grp Go.Proofs.YthiijdbiikljpaaGreat.Cod Go.Proofs.YthiijdbiikljpaaGreat.Disk
set_option linter.unusedVariables false
set_option linter.unusedSimpArgs false
def sum8 (b : List UInt8) : List UInt8 := (shaV b).take 8
theorem sum8_length (b : List UInt8) : (sum8 b).length = 8 := by unfold sum8; rw [List.length_take, shaV_length]; rfl
def recB (b : List UInt8) : List UInt8 := be32 b.length ++ (sum8 b ++ b)
theorem recB_length (b : List UInt8) : (recB b).length = 12 + b.length := by unfold recB; rw [List.length_append, List.length_append, be32_length, sum8_length]; omega
def rec1 (b : List UInt8) : Option (List UInt8) :=
  if b.length < 12 then none
  else if b.length - 12 < beNat (b.take 4) then none
  else if sum8 ((b.drop 12).take (beNat (b.take 4))) = (b.drop 4).take 8 then some ((b.drop 12).take (beNat (b.take 4))) else none
theorem rec1_len {b x : List UInt8} (h : rec1 b = some x) : 12 + x.length ≤ b.length := by
 unfold rec1 at h
 split at h
 cases h
 split at h
 cases h
 split at h
 obtain rfl := Option.some.inj h
 rw [List.length_take, List.length_drop]; omega
 cases h
theorem rec1_recB {b : List UInt8} (h : b.length < 4294967296) (r : List UInt8) : rec1 (recB b ++ r) = some b := by
 have hl := recB_length b
 have h4 : (recB b ++ r).take 4 = be32 b.length := by
   unfold recB
   rw [List.append_assoc, List.take_append_of_le_length (by rw [be32_length]; exact Nat.le_refl _), List.take_of_length_le (by rw [be32_length]; exact Nat.le_refl _)]
 have hn : beNat ((recB b ++ r).take 4) = b.length := by rw [h4, beNat_be32 _ h]
 have hd4 : (recB b ++ r).drop 4 = sum8 b ++ (b ++ r) := by
   unfold recB
   rw [List.append_assoc, List.drop_append_of_le_length (by rw [be32_length]; exact Nat.le_refl _), List.drop_of_length_le (by rw [be32_length]; exact Nat.le_refl _), List.nil_append, List.append_assoc]
 have hd12 : (recB b ++ r).drop 12 = b ++ r := by
   rw [show 12 = 4 + 8 from rfl, ← List.drop_drop, hd4, List.drop_append_of_le_length (by rw [sum8_length]; exact Nat.le_refl _), List.drop_of_length_le (by rw [sum8_length]; exact Nat.le_refl _), List.nil_append]
 have hx : ((recB b ++ r).drop 12).take b.length = b := by rw [hd12, List.take_append_of_le_length (Nat.le_refl _), List.take_of_length_le (Nat.le_refl _)]
 unfold rec1
 rw [hn, if_neg (by rw [List.length_append]; omega), if_neg (by rw [List.length_append]; omega), hx, if_pos]
 rw [hd4, List.take_append_of_le_length (by rw [sum8_length]; exact Nat.le_refl _), List.take_of_length_le (by rw [sum8_length]; exact Nat.le_refl _)]
structure Bag where
  l : List BatD
  past : Nat
def hasL (l : List BatD) (r c : Int) : Bool := l.any fun x => decide (x.round = r ∧ x.chain = c)
def mayE (s : Bag) (x : BatD) : Nat := if 1099511627776 < x.round ∨ batE x = 1 then 1 else if batE x ≠ 0 then batE x else if x.round < s.past then 13 else if hasL s.l x.round x.chain = true then 11 else 0
def goneL (l : List BatD) (r : Nat) : List BatD := l.filter fun x => decide ((r : Int) ≤ x.round)
def goneS (s : Bag) (r : Nat) : Bag := if r ≤ s.past then s else ⟨goneL s.l r, r⟩
def takeS (s : Bag) (x : BatD) : Bag := ⟨s.l ++ [x], s.past⟩
def againS (s : Bag) : List UInt8 → Option Bag
  | [] => none
  | t :: y => if t = 1 then (if batRE y = 0 ∧ mayE s (batR y) = 0 then some (takeS s (batR y)) else none)
    else if t = 2 then (if y.length = 8 ∧ beNat y ≤ 1099511627776 then some (goneS s (beNat y)) else none) else none
def heldX (x : BatD) (n : Nat) (name : List UInt8) : List (Int × List UInt8) := ((x.lets.take n).filter fun p => decide (p.1 = name)).map fun p => (x.round, p.2)
def heldL (l : List BatD) (name : List UInt8) : List (Int × List UInt8) := l.flatMap fun x => heldX x x.lets.length name
def fetchL (l : List BatD) (name : List UInt8) (a c : Int) : List Let := ((heldL l name).filter fun h => decide (a ≤ h.1) && decide (h.1 ≤ c)).map fun h => (name, h.2)
theorem heldX_zero (x : BatD) (name : List UInt8) : heldX x 0 name = [] := rfl
theorem heldX_step {x : BatD} {i : Nat} (h : i < x.lets.length) (name : List UInt8) : heldX x (i + 1) name = heldX x i name ++ if (x.lets[i]'h).1 = name then [(x.round, (x.lets[i]'h).2)] else [] := by
 unfold heldX
 rw [List.take_succ_eq_append_getElem h, List.filter_append, List.map_append]
 congr 1
 by_cases e : (x.lets[i]'h).1 = name
 rw [if_pos e]; simp [e]
 rw [if_neg e]; simp [e]
theorem heldL_take (l : List BatD) (x : BatD) (name : List UInt8) : heldL (l ++ [x]) name = heldL l name ++ heldX x x.lets.length name := by simp [heldL, List.flatMap_append]
theorem heldX_round {x : BatD} {n : Nat} {name : List UInt8} : ∀ h ∈ heldX x n name, h.1 = x.round := by
 intro h hh
 unfold heldX at hh
 obtain ⟨p, _, rfl⟩ := List.mem_map.1 hh
 rfl
theorem heldL_gone (l : List BatD) (r : Nat) (name : List UInt8) : heldL (goneL l r) name = (heldL l name).filter fun h => decide ((r : Int) ≤ h.1) := by
 induction l with
 | nil => rfl
 | cons x t ih =>
   have e1 : heldL (x :: t) name = heldX x x.lets.length name ++ heldL t name := rfl
   rw [e1, List.filter_append, ← ih]
   unfold goneL
   by_cases h : (r : Int) ≤ x.round
   rw [List.filter_cons_of_pos (by simpa using h)]
   show heldX x x.lets.length name ++ heldL _ name = _
   congr 1
   exact (List.filter_eq_self.2 fun y hy => by simpa [heldX_round y hy] using h).symm
   rw [List.filter_cons_of_neg (by simpa using h)]
   have : (heldX x x.lets.length name).filter (fun h => decide ((r : Int) ≤ h.1)) = [] := List.filter_eq_nil_iff.2 fun y hy => by simpa [heldX_round y hy] using h
   rw [this, List.nil_append]
theorem hasL_append (l : List BatD) (x : BatD) (r c : Int) : hasL (l ++ [x]) r c = (hasL l r c || decide (x.round = r ∧ x.chain = c)) := by simp [hasL]
def scan : Nat → Bag → List UInt8 → Bag × Nat
  | 0, s, _ => (s, 0)
  | n + 1, s, b => match rec1 b with
    | none => (s, 0)
    | some x => match againS s x with
      | none => (s, 0)
      | some s' => ((scan n s' (b.drop (12 + x.length))).1, 12 + x.length + (scan n s' (b.drop (12 + x.length))).2)
theorem scan_fuel : ∀ (n m : Nat) (s : Bag) (b : List UInt8), b.length < n → b.length < m → scan n s b = scan m s b := by
 intro n
 induction n with
 | zero => intro m s b h; omega
 | succ n ih =>
   intro m s b h1 h2
   obtain ⟨m, rfl⟩ : ∃ k, m = k + 1 := ⟨m - 1, by omega⟩
   unfold scan
   cases hr : rec1 b with
   | none => rfl
   | some x =>
     simp only
     cases ha : againS s x with
     | none => rfl
     | some s' =>
       simp only
       have := rec1_len hr
       rw [ih m s' _ (by rw [List.length_drop]; omega) (by rw [List.length_drop]; omega)]
def scanS (s : Bag) (b : List UInt8) : Bag × Nat := scan (b.length + 1) s b
theorem scanS_eq (s : Bag) (b : List UInt8) : scanS s b = match rec1 b with
   | none => (s, 0)
   | some x => match againS s x with
     | none => (s, 0)
     | some s' => ((scanS s' (b.drop (12 + x.length))).1, 12 + x.length + (scanS s' (b.drop (12 + x.length))).2) := by
 unfold scanS
 rw [scan]
 cases hr : rec1 b with
 | none => rfl
 | some x =>
   simp only
   cases ha : againS s x with
   | none => rfl
   | some s' =>
     simp only
     have := rec1_len hr
     rw [scan_fuel b.length _ s' _ (by rw [List.length_drop]; omega) (Nat.lt_succ_self _)]
theorem scanS_stop {s : Bag} {b : List UInt8} (h : rec1 b = none ∨ ∃ x, rec1 b = some x ∧ againS s x = none) : scanS s b = (s, 0) := by
 rw [scanS_eq]
 rcases h with h | ⟨x, h, h'⟩
 rw [h]
 rw [h]; simp only; rw [h']
theorem scanS_step {s s' : Bag} {b x : List UInt8} (h : rec1 b = some x) (h' : againS s x = some s') : scanS s b = ((scanS s' (b.drop (12 + x.length))).1, 12 + x.length + (scanS s' (b.drop (12 + x.length))).2) := by
 rw [scanS_eq, h]; simp only; rw [h']
theorem scanS_le : ∀ (n : Nat) (s : Bag) (b : List UInt8), b.length ≤ n → (scanS s b).2 ≤ b.length := by
 intro n
 induction n with
 | zero =>
   intro s b h
   have hn : rec1 b = none := by unfold rec1; rw [if_pos (by omega)]
   rw [scanS_stop (.inl hn)]; exact Nat.zero_le _
 | succ n ih =>
   intro s b h
   cases hr : rec1 b with
   | none => rw [scanS_stop (.inl hr)]; exact Nat.zero_le _
   | some x =>
     cases ha : againS s x with
     | none => rw [scanS_stop (.inr ⟨x, hr, ha⟩)]; exact Nat.zero_le _
     | some s' =>
       rw [scanS_step hr ha]
       have h1 := rec1_len hr
       have h2 := ih s' (b.drop (12 + x.length)) (by rw [List.length_drop]; omega)
       rw [List.length_drop] at h2
       show 12 + x.length + _ ≤ _
       omega
structure Box where
  D : Dsk
  s : Bag
  owed : Option Nat
def owedI (o : Option Nat) : Int := match o with
  | none => -1
  | some n => (n : Int)
def openB (D : Dsk) : Box := if (scanS ⟨[], 0⟩ D.bs).2 < D.bs.length then ⟨cutD D ((scanS ⟨[], 0⟩ D.bs).2 : Nat), (scanS ⟨[], 0⟩ D.bs).1, if cutE D ((scanS ⟨[], 0⟩ D.bs).2 : Nat) = 0 then none else some (scanS ⟨[], 0⟩ D.bs).2⟩
  else ⟨D, (scanS ⟨[], 0⟩ D.bs).1, none⟩
def settleE (B : Box) : Nat := match B.owed with
  | none => 0
  | some n => cutE B.D (n : Nat)
def settleB (B : Box) : Box := match B.owed with
  | none => B
  | some n => ⟨cutD B.D (n : Nat), B.s, if cutE B.D (n : Nat) = 0 then none else some n⟩
def putE (D : Dsk) (x : List UInt8) : Nat := if appE D (recB x) = 0 then synE (appD D (recB x)) else appE D (recB x)
def putD (D : Dsk) (x : List UInt8) : Dsk := if appE D (recB x) = 0 then synD (appD D (recB x)) else appD D (recB x)
def putB (B : Box) (x : List UInt8) : Box := if putE B.D x = 0 then ⟨putD B.D x, B.s, none⟩ else settleB ⟨putD B.D x, B.s, some B.D.bs.length⟩
def keepE (B : Box) (x : List UInt8) : Nat := if settleE B = 0 then putE (settleB B).D x else settleE B
def keepB (B : Box) (x : List UInt8) : Box := if settleE B = 0 then putB (settleB B) x else settleB B
def provedB (inner pubs : List Nat) : Bool := decide (inner.map (timesV 37) = pubs)
def acceptE (B : Box) (x : BatD) (pubs : List Nat) : Nat := if mayE B.s x ≠ 0 then mayE B.s x else if provedB x.inner pubs = false then 10 else keepE B (1 :: batB x)
def acceptB (B : Box) (x : BatD) (pubs : List Nat) : Box := if mayE B.s x ≠ 0 ∨ provedB x.inner pubs = false then B else if keepE B (1 :: batB x) = 0 then ⟨(keepB B (1 :: batB x)).D, takeS B.s x, (keepB B (1 :: batB x)).owed⟩ else keepB B (1 :: batB x)
def expireE (B : Box) (r : Int) : Nat := if r < 0 ∨ 1099511627776 < r then 1 else if r ≤ B.s.past then 0 else keepE B (2 :: be64 r.toNat)
def expireB (B : Box) (r : Int) : Box := if r < 0 ∨ 1099511627776 < r ∨ r ≤ B.s.past then B else if keepE B (2 :: be64 r.toNat) = 0 then ⟨(keepB B (2 :: be64 r.toNat)).D, goneS B.s r.toNat, (keepB B (2 :: be64 r.toNat)).owed⟩ else keepB B (2 :: be64 r.toNat)
theorem settleB_s (B : Box) : (settleB B).s = B.s := by unfold settleB; split <;> rfl
theorem putB_s (B : Box) (x : List UInt8) : (putB B x).s = B.s := by unfold putB; split; rfl; rw [settleB_s]
theorem keepB_s (B : Box) (x : List UInt8) : (keepB B x).s = B.s := by unfold keepB; split; rw [putB_s, settleB_s]; rw [settleB_s]
theorem settleB_owed {B : Box} (h : settleE B = 0) : (settleB B).owed = none := by
 unfold settleE at h; unfold settleB
 cases ho : B.owed with
 | none => simp only; exact ho
 | some n => rw [ho] at h; simp only at h ⊢; rw [if_pos h]
end Go.Proofs.YthiijdbiikljpaaGreat.Mbx
namespace Go.Proofs.YthiijdbiikljpaaGreat.KW
open Go Go.RowKit
set_option linter.unusedVariables false
set_option linter.unusedSimpArgs false
abbrev RdT (α : Type) := (Nat → Prop) → World → List Value → α → Prop
structure RdOk {α : Type} (R : RdT α) : Prop where
  chg : ∀ {A : Nat → Prop} {w w' : World} {cs : List Value} {x : α}, R A w cs x → Chg A w w' → R A w' cs x
  new : ∀ {A B : Nat → Prop} {w : World} {cs : List Value} {x : α}, R A w cs x → (∀ k, B k → k < w.heap.size → A k) → R B w cs x
  one : ∀ {A : Nat → Prop} {w : World} {cs : List Value} {x : α}, R A w cs x → ∀ u ∈ cs, u.oneCell' = true
def RByt : RdT (List UInt8) := fun A w cs xs => ∃ a c, cs = [.slice a xs.length c] ∧ Bs w a c xs ∧ ∀ ad, a = some ad → xs ≠ [] → ¬ A ad.block
def RKey (n : Nat) : RdT (List UInt8) := fun _ _ cs xs => cs = xs.map byteV ∧ xs.length = n
def RNat (k : IntKind) (M : Nat) : RdT Nat := fun _ _ cs x => cs = [.int k (x : Int)] ∧ x < M
def RZ : RdT Int := fun _ _ cs x => cs = [.int .i64 x] ∧ -9223372036854775808 ≤ x ∧ x ≤ 9223372036854775807
def RCat {α β : Type} (R1 : RdT α) (R2 : RdT β) : RdT (α × β) := fun A w cs p => ∃ c1 c2, cs = c1 ++ c2 ∧ R1 A w c1 p.1 ∧ R2 A w c2 p.2
def Els {α : Type} (A : Nat → Prop) (w : World) (sz : Nat) (R : RdT α) (a : Option Addr) (c : Nat) (xs : List α) : Prop :=
  ∃ es, Sl w a xs.length c sz es ∧ (∀ ad, a = some ad → es ≠ [] → ¬ A ad.block) ∧ ∀ i (h : i < xs.length), R A w ((es.drop (i * sz)).take sz) (xs[i]'h)
def RSl {α : Type} (sz : Nat) (R : RdT α) : RdT (List α) := fun A w cs xs => ∃ a c, cs = [.slice a xs.length c] ∧ Els A w sz R a c xs
theorem RByt.form {A : Nat → Prop} {w : World} {v : Value} {xs : List UInt8} (h : RByt A w [v] xs) : ∃ a c, v = .slice a xs.length c ∧ Bs w a c xs ∧ ∀ ad, a = some ad → xs ≠ [] → ¬ A ad.block := by
 obtain ⟨a, c, e, h1, h2⟩ := h
 exact ⟨a, c, by simpa using e, h1, h2⟩
theorem RdOk.ext {α : Type} {R : RdT α} (hR : RdOk R) {A : Nat → Prop} {w w' : World} {cs : List Value} {x : α} (h : R A w cs x) (g : Ext w w') : R A w' cs x := hR.chg h (g.mono fun _ c => c.elim)
theorem rByt : RdOk RByt := by
 refine ⟨?_, ?_, ?_⟩
 rintro A w w' cs x ⟨a, c, rfl, hs, hn⟩ g
 exact ⟨a, c, rfl, hs.chg g (fun ad e hc => hn ad e (by rintro rfl; exact hc rfl)), hn⟩
 rintro A B w cs x ⟨a, c, rfl, hs, hn⟩ h
 exact ⟨a, c, rfl, hs, fun ad e hx hB => hn ad e hx (h _ hB (hs.blk e (by simpa using hx)))⟩
 rintro A w cs x ⟨a, c, rfl, _, _⟩ u hu
 obtain rfl := List.mem_singleton.1 hu
 rfl
theorem RSl.form {α : Type} {R : RdT α} {A : Nat → Prop} {w : World} {sz : Nat} {v : Value} {xs : List α} (h : RSl sz R A w [v] xs) : ∃ a c, v = .slice a xs.length c ∧ Els A w sz R a c xs := by
 obtain ⟨a, c, e, h1⟩ := h
 exact ⟨a, c, by simpa using e, h1⟩
theorem Els.chg {α : Type} {R : RdT α} (hR : RdOk R) {A : Nat → Prop} {w w' : World} {sz c : Nat} {a : Option Addr} {xs : List α} (h : Els A w sz R a c xs) (g : Chg A w w') : Els A w' sz R a c xs := by
 obtain ⟨es, hs, hn, he⟩ := h
 exact ⟨es, hs.chg g hn, hn, fun i hi => hR.chg (he i hi) g⟩
theorem Els.ext {α : Type} {R : RdT α} (hR : RdOk R) {A : Nat → Prop} {w w' : World} {sz c : Nat} {a : Option Addr} {xs : List α} (h : Els A w sz R a c xs) (g : Ext w w') : Els A w' sz R a c xs := h.chg hR (g.mono fun _ c => c.elim)
theorem Els.new {α : Type} {R : RdT α} (hR : RdOk R) {A B : Nat → Prop} {w : World} {sz c : Nat} {a : Option Addr} {xs : List α} (h : Els A w sz R a c xs) (g : ∀ k, B k → k < w.heap.size → A k) : Els B w sz R a c xs := by
 obtain ⟨es, hs, hn, he⟩ := h
 exact ⟨es, hs, fun ad e hc hB => hn ad e hc (g _ hB (hs.blk e hc)), fun i hi => hR.new (he i hi) g⟩
theorem Els.le {α : Type} {R : RdT α} {A : Nat → Prop} {w : World} {sz c : Nat} {a : Option Addr} {xs : List α} (h : Els A w sz R a c xs) : xs.length ≤ c := by obtain ⟨es, hs, _⟩ := h; exact hs.le
theorem rSl {α : Type} {R : RdT α} (sz : Nat) (hR : RdOk R) : RdOk (RSl sz R) := by
 refine ⟨?_, ?_, ?_⟩
 rintro A w w' cs x ⟨a, c, rfl, h⟩ g
 exact ⟨a, c, rfl, h.chg hR g⟩
 rintro A B w cs x ⟨a, c, rfl, h⟩ g
 exact ⟨a, c, rfl, h.new hR g⟩
 rintro A w cs x ⟨a, c, rfl, _⟩ u hu
 obtain rfl := List.mem_singleton.1 hu
 rfl
theorem Els.nil {α : Type} (R : RdT α) (A : Nat → Prop) (w : World) (sz : Nat) : Els A w sz R none 0 [] := ⟨[], Sl.none w sz, (fun ad e => by cases e), fun i h => by simp at h⟩
theorem Els.empty {α : Type} (R : RdT α) (A : Nat → Prop) (w : World) (sz : Nat) (a : Option Addr) (c : Nat) (h : a = none → c = 0) : Els A w sz R a c [] := ⟨[], ⟨Nat.zero_le _, by simp, h, fun ad _ j u hu => by simp at hu⟩, (fun ad _ hc => absurd rfl hc), fun i h => by simp at h⟩
theorem Els.lit {α : Type} {R : RdT α} {A : Nat → Prop} {w : World} {sz g : Nat} {cells : List Value} {x : α} (hs : Sl w (some ⟨g, 0, none⟩) 1 1 sz cells) (hx : R A w cells x) (hA : ¬ A g) : Els A w sz R (some ⟨g, 0, none⟩) 1 [x] := by
 refine ⟨cells, hs, fun ad e _ => by obtain rfl := Option.some.inj e; exact hA, fun i hi => ?_⟩
 obtain rfl : i = 0 := by simp at hi; omega
 have : (cells.drop (0 * sz)).take sz = cells := by rw [Nat.zero_mul, List.drop_zero, List.take_of_length_le (by have := hs.len; omega)]
 rw [this]; exact hx
def OwE {α : Type} (A : Nat → Prop) (w : World) (base e sz : Nat) (R : RdT α) (v : Value) (xs : List α) : Prop :=
  ∃ cs, w.ownsRow base e sz v xs.length cs ∧ ∀ i (h : i < xs.length), R (fun k => A k ∨ v.ownBlock = some k) w ((cs.drop (i * sz)).take sz) (xs[i]'h)
theorem OwE.nil {α : Type} (A : Nat → Prop) (w : World) (base e sz : Nat) (R : RdT α) : OwE A w base e sz R (.slice none 0 0) [] := ⟨[], World.ownsRow_nil w base e sz, fun i h => by simp at h⟩
theorem OwE.ext {α : Type} {R : RdT α} (hR : RdOk R) {A : Nat → Prop} {w w' : World} {base e sz : Nat} {v : Value} {xs : List α} (h : OwE A w base e sz R v xs) (g : Ext w w') : OwE A w' base e sz R v xs := by
 obtain ⟨cs, ho, he⟩ := h
 exact ⟨cs, ownsRow_ext ho g, fun i hi => hR.ext (he i hi) g⟩
theorem OwE.chg {α : Type} {R : RdT α} (hR : RdOk R) {A : Nat → Prop} {w w' : World} {base e sz : Nat} {v : Value} {xs : List α} (h : OwE A w base e sz R v xs) (g : Chg A w w') (hn : ∀ k, v.ownBlock = some k → ¬ A k) : OwE A w' base e sz R v xs := by
 obtain ⟨cs, ho, he⟩ := h
 exact ⟨cs, ownsRow_chg ho g hn, fun i hi => hR.chg (he i hi) (g.mono fun k hk => Or.inl hk)⟩
theorem OwE.new {α : Type} {R : RdT α} (hR : RdOk R) {A B : Nat → Prop} {w : World} {base e sz : Nat} {v : Value} {xs : List α} (h : OwE A w base e sz R v xs) (g : ∀ k, B k → k < w.heap.size → A k ∨ v.ownBlock = some k) : OwE B w base e sz R v xs := by
 obtain ⟨cs, ho, he⟩ := h
 exact ⟨cs, ho, fun i hi => hR.new (he i hi) fun k hk hl => by rcases hk with hk | hk; exact g k hk hl; exact Or.inr hk⟩
theorem OwE.form {α : Type} {R : RdT α} (hR : RdOk R) {A : Nat → Prop} {w : World} {base e sz : Nat} {v : Value} {xs : List α} (h : OwE A w base e sz R v xs) (hA : ∀ k, v.ownBlock = some k → ¬ A k) : ∃ a c, v = .slice a xs.length c ∧ Els A w sz R a c xs ∧ ∀ ad, a = some ad → base ≤ ad.block := by
 obtain ⟨cs, ho, he⟩ := h
 have hb' : ∀ k, v.ownBlock = some k → ¬ A k := hA
 obtain ⟨a, c, rfl, hs, hb⟩ := ownsRow_form ho
 refine ⟨a, c, rfl, ⟨cs, hs, fun ad e _ => hb' _ ?_, fun i hi => hR.new (he i hi) fun k hk _ => Or.inl hk⟩, hb⟩
 subst e; rfl
theorem OwE.lt {α : Type} {R : RdT α} {A : Nat → Prop} {w : World} {base e sz : Nat} {v : Value} {xs : List α} (h : OwE A w base e sz R v xs) : ∀ k, v.ownBlock = some k → base ≤ k ∧ k < w.heap.size := by
 obtain ⟨cs, ho, he⟩ := h
 intro k hk
 exact World.ownsRow.lt ho k hk
theorem part_left {cs ds : List Value} {i n sz : Nat} (h : cs.length = n * sz) (hi : i < n) : ((cs ++ ds).drop (i * sz)).take sz = (cs.drop (i * sz)).take sz := by
 have h1 : (i + 1) * sz ≤ n * sz := Nat.mul_le_mul_right _ hi
 rw [Nat.succ_mul] at h1
 rw [List.drop_append_of_le_length (by omega), List.take_append_of_le_length (by rw [List.length_drop]; omega)]
theorem part_right {cs ds : List Value} {i n sz : Nat} (h : cs.length = n * sz) (hi : n ≤ i) : ((cs ++ ds).drop (i * sz)).take sz = (ds.drop ((i - n) * sz)).take sz := by
 have h1 : n * sz ≤ i * sz := Nat.mul_le_mul_right _ hi
 rw [List.drop_append, List.drop_of_length_le (by omega), List.nil_append, h, Nat.sub_mul]
section
variable {P : Program} {N : Nat} {Q : Exit → Act → World → Prop} {l : Env} {w : World} {ops : Array Oper} {rest : List Oper} {d : Tmp} {ty : TypeId} {pos : String} {aft : Array Edge}
variable {x y : Operand} {T T' : TypeId}
theorem W.appendE {α : Type} {R : RdT α} {A : Nat → Prop} {e sz bytes base c : Nat} {z v : Value} {ao : Option Addr} {xs ys : List α} (hR : RdOk R) (hE : Elem P e sz bytes z) (hT : P.underlying T = some (.slice e))
   (hx : ev l x = some v) (hy : ev l y = some (.slice ao ys.length c)) (ho : OwE A w base e sz R v xs) (hs : Els (fun k => A k ∨ v.ownBlock = some k) w sz R ao c ys) (hlen : (xs.length + ys.length) * bytes ≤ 140737488355328) (hlen2 : xs.length + ys.length ≤ 140737488355328) (hbase : base ≤ w.heap.size) (hN : Nat.blt d N = true)
   (next : ∀ v' w', OwE A w' base e sz R v' (xs ++ ys) → w.grownBy w' v.ownBlock → (v'.ownBlock = v.ownBlock ∨ ∃ k, v'.ownBlock = some k ∧ w.heap.size ≤ k) → W P N ops Q rest ((d, v') :: l) w') :
   W P N ops Q (⟨some d, .call ⟨.builtin .append, #[x, y], #[T, T]⟩, ty, pos, aft, none⟩ :: rest) l w := by
 obtain ⟨cs, hown, he⟩ := ho
 obtain ⟨es, hsl, hn, hes⟩ := hs
 have h1 : ∀ u ∈ es, u.oneCell' = true := by
   intro u hu
   obtain ⟨j, hj, rfl⟩ := List.getElem_of_mem hu
   have hpos := hE.pos
   have hlen' := hsl.len
   have hi : j / sz < ys.length := Nat.div_lt_of_lt_mul (by rw [Nat.mul_comm, ← hlen']; exact hj)
   have h2 := hes (j / sz) hi
   refine hR.one h2 _ ?_
   have h3 : ((es.drop (j / sz * sz)).take sz)[j % sz]? = some es[j] := by
     rw [List.getElem?_take, if_pos (Nat.mod_lt _ hpos), List.getElem?_drop]
     have : j / sz * sz + j % sz = j := by rw [Nat.mul_comm]; exact Nat.div_add_mod j sz
     rw [this]; exact List.getElem?_eq_getElem hj
   exact List.mem_of_getElem? h3
 refine W.append hE hT hx hy hown hsl h1 hlen hlen2 hbase hN fun v' w' h2 h3 h4 => next v' w' ⟨cs ++ es, by rw [List.length_append]; exact h2, fun i hi => ?_⟩ h3 h4
 have hC : Chg (fun k => v.ownBlock = some k) w w' := (Chg.of_grown h3).mono fun k hk => hk.symm
 have step : ∀ (c0 : List Value) (a : α), R (fun k => A k ∨ v.ownBlock = some k) w c0 a → R (fun k => A k ∨ v'.ownBlock = some k) w' c0 a := by
   intro c0 a ha
   have hb : R (fun k => A k ∨ v.ownBlock = some k ∨ w.heap.size ≤ k) w c0 a := hR.new ha fun k hk hlt => by
     rcases hk with hk | hk | hk
     exact Or.inl hk
     exact Or.inr hk
     omega
   have hc : R (fun k => A k ∨ v.ownBlock = some k ∨ w.heap.size ≤ k) w' c0 a := hR.chg hb (hC.mono fun k hk => Or.inr (Or.inl hk))
   refine hR.new hc fun k hk _ => ?_
   rcases hk with hk | hk
   exact Or.inl hk
   rcases h4 with h4 | ⟨k', h4, h5⟩
   exact Or.inr (Or.inl (by rw [← h4]; exact hk))
   rw [h4] at hk; obtain rfl := Option.some.inj hk; exact Or.inr (Or.inr h5)
 have hcl : cs.length = xs.length * sz := hown.1
 rw [List.length_append] at hi
 by_cases hlt : i < xs.length
 rw [part_left hcl hlt]
 have := step _ _ (he i hlt)
 rwa [List.getElem_append_left hlt]
 rw [part_right hcl (by omega)]
 have := step _ _ (hes (i - xs.length) (by omega))
 rwa [List.getElem_append_right (by omega)]
theorem W.indexE {α : Type} {R : RdT α} {A : Nat → Prop} {t e sz bytes c j : Nat} {z : Value} {ao : Option Addr} {xs : List α} {k : IntKind} (hE : Elem P e sz bytes z) (hT : P.underlying t = some (.slice e)) (hx : ev l x = some (.slice ao xs.length c)) (hs : Els A w sz R ao c xs) (hi : ev l y = some (.int k (j : Int))) (hj : j < xs.length) (hN : Nat.blt d N = true)
   (next : ∀ ad cs, Cells w ad cs → R A w cs (xs[j]'hj) → cs.length = sz → W P N ops Q rest ((d, .pointer (some ad)) :: l) w) :
   W P N ops Q (⟨some d, .indexAddr t x y, ty, pos, aft, none⟩ :: rest) l w := by
 obtain ⟨es, hsl, hn, hes⟩ := hs
 refine W.indexS hE hT hx hsl hi (by omega) hN fun ad _ _ hc => next ad _ (hc.take sz) (hes j hj) ?_
 have h1 : (j + 1) * sz ≤ xs.length * sz := Nat.mul_le_mul_right _ hj
 rw [Nat.succ_mul] at h1
 rw [List.length_take, List.length_drop, hsl.len]
 simp only [Int.toNat_natCast]
 omega
theorem W.loadC {t : TypeId} {ad : Addr} {v : Value} {dd : TypeDesc} {cs : List Value} {j : Nat} (hc : Cells w ad cs) (hv : cs[j]? = some v) (hx : ev l x = some (.pointer (some (ad.add j)))) (hT : P.underlying t = some dd) (ha : dd.isRow = false) (hN : Nat.blt d N = true)
   (next : W P N ops Q rest ((d, v) :: l) w) : W P N ops Q (⟨some d, .load t x, ty, pos, aft, none⟩ :: rest) l w :=
 W.load hx hT ha (hc j v hv) hN next
end
def Opens {H : Type} (enc : TypeId × Value → H) (P : Program) (t : TypeId) {α : Type} (R : RdT α) : Prop :=
  ∀ {w : World} {base : Nat} {spare : Nat → Bool} {held : Bool} {fuel : Nat} {cs : List Value} {x : DataW H × List MemPlace}, DataW.trod enc P w base spare held fuel t cs = some x → ∃ a, R (fun _ => False) w cs a
end Go.Proofs.YthiijdbiikljpaaGreat.KW
namespace Go.Proofs.YthiijdbiikljpaaGreat.KW
open Go Go.RowKit
open Go.ChangeMaps (setBlock)
open Go.WideMaps (KeyLaw)
set_option linter.unusedVariables false
set_option linter.unusedSimpArgs false
structure Mp (P : Program) (kt : TypeId) (w : World) (b : Nat) (es : List MapEntry) (clock : Nat) : Prop where
  heap : w.heap[b]? = some (.map es.toArray clock)
  born : ∀ e ∈ es, e.born < clock
  nodup : (es.map (·.born)).Nodup
  key : ∀ e ∈ es, ∃ l, keyOf P kt e.key = some l
  apart : es.Pairwise (fun e e' => e.key ≠ e'.key)
section
variable {P : Program} {kt : TypeId} {w w' : World} {b : Nat} {es : List MapEntry} {clock : Nat}
theorem Mp.lt (h : Mp P kt w b es clock) : b < w.heap.size := (Array.getElem?_eq_some_iff.1 h.heap).1
theorem Mp.chg {S : Nat → Prop} (h : Mp P kt w b es clock) (c : Chg S w w') (hn : ¬ S b) : Mp P kt w' b es clock := ⟨(c.block b h.lt hn).trans h.heap, h.born, h.nodup, h.key, h.apart⟩
theorem Mp.ext (h : Mp P kt w b es clock) (c : Ext w w') : Mp P kt w' b es clock := h.chg c fun x => x
theorem Mp.uniq (h : Mp P kt w b es clock) {i j : Nat} {e e' : MapEntry} (hi : es[i]? = some e) (hj : es[j]? = some e') (hk : e.key = e'.key) : i = j := by
 obtain ⟨h1, rfl⟩ := List.getElem?_eq_some_iff.1 hi
 obtain ⟨h2, rfl⟩ := List.getElem?_eq_some_iff.1 hj
 rcases Nat.lt_trichotomy i j with h3 | h3 | h3
 exact absurd hk (List.pairwise_iff_getElem.1 h.apart i j h1 h2 h3)
 exact h3
 exact absurd hk.symm (List.pairwise_iff_getElem.1 h.apart j i h2 h1 h3)
theorem Mp.uniqB (h : Mp P kt w b es clock) {i j : Nat} {e e' : MapEntry} (hi : es[i]? = some e) (hj : es[j]? = some e') (hk : e.born = e'.born) : i = j := by
 obtain ⟨h1, rfl⟩ := List.getElem?_eq_some_iff.1 hi
 obtain ⟨h2, rfl⟩ := List.getElem?_eq_some_iff.1 hj
 have := h.nodup
 rw [List.nodup_iff_pairwise_ne] at this
 have hp := List.pairwise_iff_getElem.1 this
 rcases Nat.lt_trichotomy i j with h3 | h3 | h3
 have := hp i j (by simpa using h1) (by simpa using h2) h3
 simp only [List.getElem_map] at this
 exact absurd hk this
 exact h3
 have := hp j i (by simpa using h2) (by simpa using h1) h3
 simp only [List.getElem_map] at this
 exact absurd hk.symm this
theorem Chg.setBlock (w : World) (b : Nat) (o : Obj) : Chg (fun k => k = b) w (setBlock w b o) :=
 ⟨rfl, rfl, rfl, by simp [ChangeMaps.setBlock], fun k _ hk => by
   simp only [ChangeMaps.setBlock, Array.getElem?_setIfInBounds]
   rw [if_neg fun e => hk e.symm]⟩
theorem setBlock_heap {o : Obj} (hb : b < w.heap.size) : (setBlock w b o).heap[b]? = some o := by
 simp only [ChangeMaps.setBlock, Array.getElem?_setIfInBounds]
 simp [hb]
theorem Mp.made (w : World) : Mp P kt (w.alloc (.map #[] 0)) w.heap.size [] 0 := ⟨heap_alloc_last w _, by simp, by simp, by simp, by simp⟩
theorem Mp.put {j : Nat} {e : MapEntry} (h : Mp P kt w b es clock) (he : es[j]? = some e) (v : Value) : Mp P kt (setBlock w b (.map (es.set j ⟨e.key, v, e.born⟩).toArray clock)) b (es.set j ⟨e.key, v, e.born⟩) clock := by
 obtain ⟨hj, rfl⟩ := List.getElem?_eq_some_iff.1 he
 have hb : (es.set j ⟨es[j].key, v, es[j].born⟩).map (·.born) = es.map (·.born) := by
   apply List.ext_getElem (by simp)
   intro i h1 h2
   rw [List.getElem_map, List.getElem_map, List.getElem_set]
   split
   rename_i h3; subst h3; rfl
   rfl
 have hm : ∀ x ∈ es.set j ⟨es[j].key, v, es[j].born⟩, ∃ y ∈ es, x.key = y.key ∧ x.born = y.born := by
   intro x hx
   rcases List.mem_or_eq_of_mem_set hx with hx | rfl
   exact ⟨x, hx, rfl, rfl⟩
   exact ⟨es[j], List.getElem_mem hj, rfl, rfl⟩
 refine ⟨setBlock_heap h.lt, fun x hx => ?_, by rw [hb]; exact h.nodup, fun x hx => ?_, ?_⟩
 obtain ⟨y, hy, _, h2⟩ := hm x hx; rw [h2]; exact h.born y hy
 obtain ⟨y, hy, h1, _⟩ := hm x hx; rw [h1]; exact h.key y hy
 refine List.pairwise_iff_getElem.2 fun i k hi hk hik => ?_
 have hi' : i < es.length := by simpa using hi
 have hk' : k < es.length := by simpa using hk
 have e1 : ∀ (m : Nat) (hm : m < es.length), ((es.set j ⟨es[j].key, v, es[j].born⟩)[m]'(by simpa using hm)).key = es[m].key := by
   intro m hm
   rw [List.getElem_set]
   split
   rename_i h1; subst h1; rfl
   rfl
 rw [e1 i hi', e1 k hk']
 exact List.pairwise_iff_getElem.1 h.apart i k hi' hk' hik
theorem Mp.push {k v : Value} {l : Lit} (h : Mp P kt w b es clock) (hk : keyOf P kt k = some l) (hn : ∀ e ∈ es, e.key ≠ k) : Mp P kt (setBlock w b (.map (es ++ [(⟨k, v, clock⟩ : MapEntry)]).toArray (clock + 1))) b (es ++ [(⟨k, v, clock⟩ : MapEntry)]) (clock + 1) := by
 refine ⟨setBlock_heap h.lt, fun x hx => ?_, ?_, fun x hx => ?_, ?_⟩
 rcases List.mem_append.1 hx with hx | hx
 have := h.born x hx; omega
 obtain rfl := List.mem_singleton.1 hx; show clock < clock + 1; omega
 rw [List.map_append, List.nodup_append]
 refine ⟨h.nodup, by simp, ?_⟩
 intro a ha c hc
 obtain ⟨x, hx, rfl⟩ := List.mem_map.1 ha
 have := h.born x hx
 simp at hc
 omega
 rcases List.mem_append.1 hx with hx | hx
 exact h.key x hx
 obtain rfl := List.mem_singleton.1 hx; exact ⟨l, hk⟩
 rw [List.pairwise_append]
 refine ⟨h.apart, by simp, ?_⟩
 intro x hx y hy
 obtain rfl := List.mem_singleton.1 hy
 exact hn x hx
theorem Mp.drop (h : Mp P kt w b es clock) (j : Nat) : Mp P kt (setBlock w b (.map (es.eraseIdx j).toArray clock)) b (es.eraseIdx j) clock := by
 have hs : (es.eraseIdx j).Sublist es := List.eraseIdx_sublist es j
 exact ⟨setBlock_heap h.lt, fun x hx => h.born x (hs.subset hx), List.Nodup.sublist (hs.map _) h.nodup, fun x hx => h.key x (hs.subset hx), h.apart.sublist hs⟩
theorem Mp.same (h : Mp P kt w b es clock) : Mp P kt (setBlock w b (.map es.toArray clock)) b es clock := ⟨setBlock_heap h.lt, h.born, h.nodup, h.key, h.apart⟩
theorem Mp.find {k : Value} {l : Lit} (K : KeyLaw P kt) (h : Mp P kt w b es clock) (hk : keyOf P kt k = some l) :
   ((Instr.findKey kt k es).run P w = .ok none w ∧ ∀ e ∈ es, e.key ≠ k) ∨ ∃ j e, (Instr.findKey kt k es).run P w = .ok (some (j, e.val)) w ∧ es[j]? = some e ∧ e.key = k := K.find w hk es h.key
theorem Mp.run_lookup {t et : TypeId} {z k : Value} {l : Lit} (K : KeyLaw P kt) (ht : P.underlying t = some (.map kt et)) (h : Mp P kt w b es clock) (hz : (zeroValue et).run P w = .ok z w) (hk : keyOf P kt k = some l) :
   ((Instr.lookup t (.map (some b)) k false).run P w = .ok z w ∧ ∀ e ∈ es, e.key ≠ k) ∨ ∃ e ∈ es, e.key = k ∧ (Instr.lookup t (.map (some b)) k false).run P w = .ok e.val w := by
 rcases h.find K hk with ⟨h1, h2⟩ | ⟨j, e, h1, h2, h3⟩
 refine .inl ⟨?_, h2⟩
 simp [Instr.lookup, run_underlying ht, MapKept.run_getObj_map h.heap, K.check w _ hk, h1, hz]
 refine .inr ⟨e, List.mem_of_getElem? h2, h3, ?_⟩
 simp [Instr.lookup, run_underlying ht, MapKept.run_getObj_map h.heap, K.check w _ hk, h1]
theorem Mp.run_update {t et : TypeId} {k : Value} {l : Lit} (K : KeyLaw P kt) (ht : P.underlying t = some (.map kt et)) (h : Mp P kt w b es clock) (hk : keyOf P kt k = some l) (v : Value) :
   ∃ es' clock' w', (Instr.mapUpdate t (.map (some b)) k v).run P w = .ok () w' ∧ Chg (fun q => q = b) w w' ∧ Mp P kt w' b es' clock' ∧
     (((∀ e ∈ es, e.key ≠ k) ∧ es' = es ++ [⟨k, v, clock⟩] ∧ clock' = clock + 1) ∨ ∃ j e, es[j]? = some e ∧ e.key = k ∧ es' = es.set j ⟨k, v, e.born⟩ ∧ clock' = clock) := by
 rcases h.find K hk with ⟨h1, h2⟩ | ⟨j, e, h1, h2, h3⟩
 refine ⟨_, _, _, ?_, Chg.setBlock w b _, h.push hk h2, .inl ⟨h2, rfl, rfl⟩⟩
 simp [Instr.mapUpdate, run_underlying ht, MapKept.run_getObj_map h.heap, K.check w _ hk, h1, MapKept.run_setObj_map _ h.heap, ChangeMaps.setBlock]
 subst h3
 refine ⟨_, _, _, ?_, Chg.setBlock w b _, h.put h2 v, .inr ⟨j, e, h2, rfl, rfl, rfl⟩⟩
 have e2 : es.toArray[j]? = some e := by simpa using h2
 have e3 : es.toArray.modify j (fun x => { x with key := e.key, val := v }) = (es.set j ⟨e.key, v, e.born⟩).toArray := by
   rw [List.modify_toArray]
   congr 1
   exact ChangeMaps.modify_eq_set _ es j e h2
 have e4 : (if es.toArray.size = 0 then true else false) = es.toArray.isEmpty := by simp [Array.isEmpty]
 simp only [Instr.mapUpdate, Sem.run_bind, run_underlying ht, Result.andThen_ok, MapKept.run_getObj_map h.heap, K.check w _ hk, h1, e2, Option.map_some, Option.getD_some, K.stays w hk, MapKept.run_setObj_map _ h.heap, e3]
 rfl
theorem Mp.run_entry {t et : TypeId} {z k : Value} {l : Lit} (K : KeyLaw P kt) (ht : P.underlying t = some (.map kt et)) (h : Mp P kt w b es clock) (hz : (zeroValue et).run P w = .ok z w) (hk : keyOf P kt k = some l) :
   ∃ es' clock' w' j e, (Instr.mapEntry t (.map (some b)) k).run P w = .ok (.tuple #[e.val, .int .i64 (e.born : Int)]) w' ∧ Chg (fun q => q = b) w w' ∧ Mp P kt w' b es' clock' ∧ es'[j]? = some e ∧ e.key = k ∧
     (((∀ x ∈ es, x.key ≠ k) ∧ e = ⟨k, z, clock⟩ ∧ es' = es ++ [e] ∧ j = es.length ∧ clock' = clock + 1) ∨ (es' = es ∧ clock' = clock)) := by
 rcases h.find K hk with ⟨h1, h2⟩ | ⟨j, e, h1, h2, h3⟩
 refine ⟨_, _, _, es.length, ⟨k, z, clock⟩, ?_, Chg.setBlock w b _, h.push (v := z) hk h2, by simp, rfl, .inl ⟨h2, rfl, rfl, rfl, rfl⟩⟩
 simp [Instr.mapEntry, run_underlying ht, MapKept.run_getObj_map h.heap, K.check w _ hk, h1, hz, MapKept.run_setObj_map _ h.heap, ChangeMaps.setBlock, goInt]
 subst h3
 refine ⟨_, _, _, j, e, ?_, Chg.setBlock w b _, h.same, h2, rfl, .inr ⟨rfl, rfl⟩⟩
 have e2 : es.toArray[j]? = some e := by simpa using h2
 have e3 : es.toArray.modify j (fun x => { x with key := e.key }) = es.toArray := by
   rw [List.modify_toArray]
   congr 1
   rw [ChangeMaps.modify_eq_set _ es j e h2]
   obtain ⟨hj, rfl⟩ := List.getElem?_eq_some_iff.1 h2
   exact List.set_getElem_self hj
 simp only [Instr.mapEntry, Sem.run_bind, run_underlying ht, Result.andThen_ok, MapKept.run_getObj_map h.heap, K.check w _ hk, h1, e2, Option.map_some, Option.getD_some, K.stays w hk, MapKept.run_setObj_map _ h.heap, e3]
 rfl
theorem Mp.run_store {t : TypeId} {j : Nat} {e : MapEntry} (h : Mp P kt w b es clock) (he : es[j]? = some e) (v : Value) :
   ∃ w', (Instr.entryStore t (.map (some b)) (.int .i64 (e.born : Int)) v).run P w = .ok () w' ∧ Chg (fun q => q = b) w w' ∧ Mp P kt w' b (es.set j ⟨e.key, v, e.born⟩) clock := by
 refine ⟨_, ?_, Chg.setBlock w b _, h.put he v⟩
 have hf : es.toArray.findIdx? (fun x => ((x.born : Nat) : Int) == (e.born : Int)) = some j := by
   rw [List.findIdx?_toArray, List.findIdx?_eq_some_iff_getElem]
   obtain ⟨hj, rfl⟩ := List.getElem?_eq_some_iff.1 he
   refine ⟨hj, by simp, fun i hi => ?_⟩
   intro hc
   have hb : es[i].born = es[j].born := by
     have hc' : ((es[i].born : Nat) : Int) = (es[j].born : Nat) := by simpa using hc
     omega
   have := h.uniqB (i := i) (j := j) (List.getElem?_eq_getElem (by omega)) (List.getElem?_eq_getElem hj) hb
   omega
 have e3 : es.toArray.modify j (fun x => { x with val := v }) = (es.set j ⟨e.key, v, e.born⟩).toArray := by
   rw [List.modify_toArray]
   congr 1
   exact ChangeMaps.modify_eq_set _ es j e he
 have ha : ∀ w, (asInt (.int .i64 (e.born : Int))).run P w = .ok (e.born : Int) w := fun w => by simp [asInt, asIntOf]
 simp only [Instr.entryStore, Sem.run_bind, Sem.run_pure, MapKept.run_getObj_map h.heap, Result.andThen_ok, ha, hf, MapKept.run_setObj_map _ h.heap, e3]
 rfl
theorem Mp.run_delete {t et ty : TypeId} {k : Value} {l : Lit} (K : KeyLaw P kt) (ht : P.underlying t = some (.map kt et)) (h : Mp P kt w b es clock) (hk : keyOf P kt k = some l) :
   ∃ es' w', (Builtin.delete_ #[t, kt] ty #[.map (some b), k]).run P w = .ok (.tuple #[]) w' ∧ Chg (fun q => q = b) w w' ∧ Mp P kt w' b es' clock ∧ (((∀ e ∈ es, e.key ≠ k) ∧ es' = es) ∨ ∃ j e, es[j]? = some e ∧ e.key = k ∧ es' = es.eraseIdx j) := by
 rcases h.find K hk with ⟨h1, h2⟩ | ⟨j, e, h1, h2, h3⟩
 refine ⟨_, _, ?_, Chg.setBlock w b _, h.same, .inl ⟨h2, rfl⟩⟩
 simp [Builtin.delete_, run_underlying ht, MapKept.run_getObj_map h.heap, K.check w _ hk, h1, MapKept.run_setObj_map _ h.heap, ChangeMaps.setBlock]
 refine ⟨_, _, ?_, Chg.setBlock w b _, h.drop j, .inr ⟨j, e, h2, h3, rfl⟩⟩
 simp [Builtin.delete_, run_underlying ht, MapKept.run_getObj_map h.heap, K.check w _ hk, h1, MapKept.run_setObj_map _ h.heap, ChangeMaps.setBlock]
end
structure Pre (es : List MapEntry) (clock : Nat) (k z : Value) (es' : List MapEntry) (clock' j : Nat) (e : MapEntry) : Prop where
  key : e.key = k
  get : es'[j]? = some e
  is : ((∀ x ∈ es, x.key ≠ k) ∧ e = ⟨k, z, clock⟩ ∧ es' = es ++ [e] ∧ j = es.length ∧ clock' = clock + 1) ∨ (es' = es ∧ clock' = clock)
theorem Pre.exist (es : List MapEntry) (clock : Nat) (k z : Value) : ∃ es' clock' j e, Pre es clock k z es' clock' j e := by
 by_cases h : ∃ e ∈ es, e.key = k
 obtain ⟨e, he, hk⟩ := h
 obtain ⟨j, hj⟩ := List.mem_iff_getElem?.1 he
 exact ⟨es, clock, j, e, hk, hj, .inr ⟨rfl, rfl⟩⟩
 exact ⟨es ++ [⟨k, z, clock⟩], clock + 1, es.length, ⟨k, z, clock⟩, rfl, by simp, .inl ⟨fun x hx hk => h ⟨x, hx, hk⟩, rfl, rfl, rfl, rfl⟩⟩
theorem Pre.one {P : Program} {kt : TypeId} {w : World} {b : Nat} {es es1 es2 : List MapEntry} {clock c1 c2 j1 j2 : Nat} {k z : Value} {e1 e2 : MapEntry} (h : Mp P kt w b es clock) (p1 : Pre es clock k z es1 c1 j1 e1) (p2 : Pre es clock k z es2 c2 j2 e2) : es1 = es2 ∧ c1 = c2 ∧ j1 = j2 ∧ e1 = e2 := by
 rcases p1.is with ⟨h1, rfl, rfl, rfl, rfl⟩ | ⟨rfl, rfl⟩ <;> rcases p2.is with ⟨g1, rfl, rfl, rfl, rfl⟩ | ⟨rfl, rfl⟩
 exact ⟨rfl, rfl, rfl, rfl⟩
 exact absurd p2.key (h1 _ (List.mem_of_getElem? p2.get))
 exact absurd p1.key (g1 _ (List.mem_of_getElem? p1.get))
 have := h.uniq p1.get p2.get (p1.key.trans p2.key.symm)
 subst this
 have := p1.get.symm.trans p2.get
 exact ⟨rfl, rfl, rfl, Option.some.inj this⟩
theorem keyLits_int {P : Program} {d : Nat} {t : TypeId} {q : IntKind} {n : Int} (ht : P.underlying t = some (.int q)) (hw : (Lit.int q n).wf = true) : P.keyLits (d + 1) t [.int q n] = some [.int q n] := by
 simp [Program.keyLits, ht, hw]
theorem mapM_some {α β : Type} {f : α → Option β} : ∀ (l : List α), (∀ x ∈ l, ∃ y, f x = some y) → ∃ ys, l.mapM f = some ys
 | [], _ => ⟨[], rfl⟩
 | x :: r, h => by
   obtain ⟨y, hy⟩ := h x (by simp)
   obtain ⟨ys, hys⟩ := mapM_some r fun z hz => h z (by simp [hz])
   exact ⟨y :: ys, by rw [List.mapM_cons, hy, hys]; rfl⟩
theorem keyOf_bytes {P : Program} {kt e : TypeId} {k : List UInt8} (ht : P.underlying kt = some (.array 32 e)) (he : P.underlying e = some (.int .u8)) (hc : P.cellsOf kt = 32) (hce : P.cellsOf e = 1) (hk : P.keyType kt = true) (hs : 0 < P.types.size) (hl : k.length = 32) :
   ∃ l, keyOf P kt (.agg (k.map byteV).toArray) = some l := by
 have h1 : (Value.agg (k.map byteV).toArray).formed P kt = true := by simp [Value.formed, ht, hc, hl]
 have h2 : ∃ ls, P.keyLits (P.types.size + 1) kt (k.map byteV) = some ls := by
   obtain ⟨n, hn⟩ : ∃ n, P.types.size = n + 1 := ⟨P.types.size - 1, by omega⟩
   rw [hn]
   unfold Program.keyLits
   simp only [ht, hc, hce, List.length_map, hl, if_true]
   obtain ⟨ys, hys⟩ := mapM_some (f := fun i => P.keyLits (n + 1) e (((k.map byteV).drop (i * 1)).take 1)) (List.range 32) (fun i hi => by
     have hi : i < k.length := by simpa [hl] using hi
     refine ⟨[.int .u8 ((k[i].toNat : Nat) : Int)], ?_⟩
     rw [Nat.mul_one, List.drop_eq_getElem_cons (by simpa using hi), List.take_succ_cons, List.take_zero, List.getElem_map]
     exact keyLits_int he (by
       have := (k[i]).toNat_lt
       have e1 : IntKind.u8.min = 0 := rfl
       have e2 : IntKind.u8.max = 255 := rfl
       unfold Lit.wf
       simp [e1, e2]
       omega))
   exact ⟨_, by rw [hys]; rfl⟩
 obtain ⟨ls, hls⟩ := h2
 exact ⟨_, by
   unfold keyOf
   rw [ht]
   simp only [hk, h1, Bool.and_self, if_true]
   show (P.keyLits (P.types.size + 1) kt ((Value.agg (k.map byteV).toArray).cells).toList).map _ = _
   rw [show ((Value.agg (k.map byteV).toArray).cells).toList = k.map byteV from rfl, hls]; rfl⟩
theorem keyOf_pair {P : Program} {kt e : TypeId} {fs : Array Field} {a c : Int} (ht : P.underlying kt = some (.struct fs)) (hf : fs.toList.map (fun f => (f.name != "_", f.type, f.offset)) = [(true, e, 0), (true, e, 1)]) (he : P.underlying e = some (.int .i64)) (hc : P.cellsOf kt = 2) (hce : P.cellsOf e = 1) (hk : P.keyType kt = true) (hs : 0 < P.types.size)
   (ha : -9223372036854775808 ≤ a ∧ a ≤ 9223372036854775807) (hb : -9223372036854775808 ≤ c ∧ c ≤ 9223372036854775807) : ∃ l, keyOf P kt (.agg #[.int .i64 a, .int .i64 c]) = some l := by
 have h1 : (Value.agg #[.int .i64 a, .int .i64 c]).formed P kt = true := by simp [Value.formed, ht, hc]
 have w1 : (Lit.int .i64 a).wf = true := WalkArith.wf_i64 ha
 have w2 : (Lit.int .i64 c).wf = true := WalkArith.wf_i64 hb
 have h2 : ∃ ls, P.keyLits (P.types.size + 1) kt [.int .i64 a, .int .i64 c] = some ls := by
   obtain ⟨n, hn⟩ : ∃ n, P.types.size = n + 1 := ⟨P.types.size - 1, by omega⟩
   rw [hn]
   unfold Program.keyLits
   simp only [ht]
   obtain ⟨l, rfl⟩ : ∃ l : List Field, fs = l.toArray := ⟨fs.toList, by simp⟩
   rcases l with _ | ⟨f, _ | ⟨g, _ | ⟨q, r⟩⟩⟩
   simp at hf
   simp at hf
   simp only [List.map_cons, List.map_nil, List.cons.injEq, Prod.mk.injEq, and_true] at hf
   obtain ⟨⟨n1, t1, o1⟩, ⟨n2, t2, o2⟩⟩ := hf
   refine ⟨[.int .i64 a, .int .i64 c], ?_⟩
   simp only [hc, List.length_cons, List.length_nil, Nat.zero_add, true_and]
   rw [if_pos (by simp [n1, n2])]
   simp only [List.mapM_cons, List.mapM_nil, t1, t2, o1, o2, hce]
   rw [show (List.take 1 (List.drop 0 [Value.int .i64 a, Value.int .i64 c])) = [Value.int .i64 a] from rfl, show (List.take 1 (List.drop 1 [Value.int .i64 a, Value.int .i64 c])) = [Value.int .i64 c] from rfl, keyLits_int he w1, keyLits_int he w2]
   rfl
   simp at hf
 obtain ⟨ls, hls⟩ := h2
 exact ⟨_, by
   unfold keyOf
   rw [ht]
   simp only [hk, h1, Bool.and_self, if_true]
   show (P.keyLits (P.types.size + 1) kt [.int .i64 a, .int .i64 c]).map _ = _
   rw [hls]; rfl⟩
section
variable {P : Program} {N : Nat} {Q : Exit → Act → World → Prop} {l : Env} {w : World} {ops : Array Oper} {rest : List Oper} {d : Tmp} {ty : TypeId} {pos : String} {aft : Array Edge}
variable {x y : Operand} {T T' : TypeId} {kt : TypeId} {b : Nat} {es : List MapEntry} {clock : Nat}
theorem W.opNone {o : Oper} {v : Value} {w' : World} (hg : o.guard = none) (hd : o.dst = none) (hrun : ∀ a, Has N l a → (execOp a.eval o).run P w = .ok (.value v) w')
   (next : W P N ops Q rest l w') : W P N ops Q (o :: rest) l w :=
 ⟨fun a ha => wpList_plain hg fun K hK => by
   unfold Oper.wp
   rw [hrun a ha]
   simp only [Oper.upon, hd, Act.put]
   exact hK _ _ (next.out _ ha)⟩
theorem W.makeMap {t : TypeId} (hN : Nat.blt d N = true) (next : ∀ g w', g = w.heap.size → Ext w w' → Mp P kt w' g [] 0 → W P N ops Q rest ((d, .map (some g)) :: l) w') : W P N ops Q (⟨some d, .makeMap t none, ty, pos, aft, none⟩ :: rest) l w :=
 W.op rfl rfl hN (fun a ha => by
   have : (Instr.makeMap t none).run P w = .ok (.map (some w.heap.size)) (w.alloc (.map #[] 0)) := rfl
   simp only [execOp, Option.map_none, Sem.run_bind, this, Result.andThen_ok, Sem.run_pure]) (next _ _ rfl (Ext.alloc _ _) (Mp.made w))
theorem W.lenM {e : TypeId} (hx : ev l x = some (.map (some b))) (h : Mp P kt w b es clock) (hT : P.underlying T = some (.map kt e)) (hN : Nat.blt d N = true) (next : W P N ops Q rest ((d, .int .i64 (es.length : Int)) :: l) w) : W P N ops Q (⟨some d, .call ⟨.builtin .len, #[x], #[T]⟩, ty, pos, aft, none⟩ :: rest) l w :=
 run_len (by simp [Builtin.len_, run_underlying hT, MapKept.run_getObj_map h.heap, goInt]) hx hN next
theorem W.lookupM {t et : TypeId} {z k : Value} {lk : Lit} (K : KeyLaw P kt) (hT : P.underlying t = some (.map kt et)) (hz : (P.info? et).map (·.zero) = some (some z)) (hx : ev l x = some (.map (some b))) (hy : ev l y = some k) (h : Mp P kt w b es clock) (hk : keyOf P kt k = some lk) (hN : Nat.blt d N = true)
   (next : ∀ r, (((∀ e ∈ es, e.key ≠ k) ∧ r = z) ∨ ∃ e ∈ es, e.key = k ∧ r = e.val) → W P N ops Q rest ((d, r) :: l) w) : W P N ops Q (⟨some d, .lookup t x y false, ty, pos, aft, none⟩ :: rest) l w := by
 have hzv : (zeroValue et).run P w = .ok z w := by
   cases hq : P.info? et with
   | none => simp [hq] at hz
   | some i => have hs : i.zero = some z := by simpa [hq] using hz
               simp [zeroValue, typeInfo, hq, hs]
 rcases h.run_lookup K hT hzv hk with ⟨hr, h2⟩ | ⟨e, he, h3, hr⟩
 exact W.op rfl rfl hN (fun a ha => by simp only [execOp, ha.ev hx, ha.ev hy, Sem.run_bind, Sem.run_pure, hr, Result.andThen_ok]) (next _ (.inl ⟨h2, rfl⟩))
 exact W.op rfl rfl hN (fun a ha => by simp only [execOp, ha.ev hx, ha.ev hy, Sem.run_bind, Sem.run_pure, hr, Result.andThen_ok]) (next _ (.inr ⟨e, he, h3, rfl⟩))
theorem W.updateM {t et : TypeId} {k v : Value} {z : Operand} {lk : Lit} (K : KeyLaw P kt) (hT : P.underlying t = some (.map kt et)) (hx : ev l x = some (.map (some b))) (hy : ev l y = some k) (hz : ev l z = some v) (h : Mp P kt w b es clock) (hk : keyOf P kt k = some lk)
   (next : ∀ es' clock' w', Chg (fun q => q = b) w w' → Mp P kt w' b es' clock' → (((∀ e ∈ es, e.key ≠ k) ∧ es' = es ++ [⟨k, v, clock⟩] ∧ clock' = clock + 1) ∨ ∃ j e, es[j]? = some e ∧ e.key = k ∧ es' = es.set j ⟨k, v, e.born⟩ ∧ clock' = clock) → W P N ops Q rest l w') :
   W P N ops Q (⟨none, .mapUpdate t x y z, ty, pos, aft, none⟩ :: rest) l w := by
 obtain ⟨es', clock', w', hr, hc, hm, hd⟩ := h.run_update K hT hk v
 refine W.opSkip rfl rfl (fun a ha => ?_) (next es' clock' w' hc hm hd)
 simp only [execOp, ha.ev hx, ha.ev hy, ha.ev hz, Sem.run_bind, Sem.run_pure, hr, Result.andThen_ok]
theorem W.mapEntry {t et : TypeId} {z k : Value} {lk : Lit} (K : KeyLaw P kt) (hT : P.underlying t = some (.map kt et)) (hz : (P.info? et).map (·.zero) = some (some z)) (hx : ev l x = some (.map (some b))) (hy : ev l y = some k) (h : Mp P kt w b es clock) (hk : keyOf P kt k = some lk) (hN : Nat.blt d N = true)
   (next : ∀ es' clock' w' j e, Chg (fun q => q = b) w w' → Mp P kt w' b es' clock' → es'[j]? = some e → e.key = k → (((∀ x ∈ es, x.key ≠ k) ∧ e = ⟨k, z, clock⟩ ∧ es' = es ++ [e] ∧ j = es.length ∧ clock' = clock + 1) ∨ (es' = es ∧ clock' = clock)) → W P N ops Q rest ((d, .tuple #[e.val, .int .i64 (e.born : Int)]) :: l) w') :
   W P N ops Q (⟨some d, .mapEntry t x y, ty, pos, aft, none⟩ :: rest) l w := by
 have hzv : (zeroValue et).run P w = .ok z w := by
   cases hq : P.info? et with
   | none => simp [hq] at hz
   | some i => have hs : i.zero = some z := by simpa [hq] using hz
               simp [zeroValue, typeInfo, hq, hs]
 obtain ⟨es', clock', w', j, e, hr, hc, hm, h1, h2, h3⟩ := h.run_entry K hT hzv hk
 refine W.op rfl rfl hN (fun a ha => ?_) (next es' clock' w' j e hc hm h1 h2 h3)
 simp only [execOp, ha.ev hx, ha.ev hy, Sem.run_bind, Sem.run_pure, hr, Result.andThen_ok]
theorem W.entryStore {t j : Nat} {e : MapEntry} {v : Value} {z : Operand} (hx : ev l x = some (.map (some b))) (hy : ev l y = some (.int .i64 (e.born : Int))) (hz : ev l z = some v) (h : Mp P kt w b es clock) (he : es[j]? = some e)
   (next : ∀ w', Chg (fun q => q = b) w w' → Mp P kt w' b (es.set j ⟨e.key, v, e.born⟩) clock → W P N ops Q rest l w') :
   W P N ops Q (⟨none, .entryStore t x y z, ty, pos, aft, none⟩ :: rest) l w := by
 obtain ⟨w', hr, hc, hm⟩ := h.run_store (t := t) he v
 refine W.opSkip rfl rfl (fun a ha => ?_) (next w' hc hm)
 simp only [execOp, ha.ev hx, ha.ev hy, ha.ev hz, Sem.run_bind, Sem.run_pure, hr, Result.andThen_ok]
theorem W.deleteM {t et : TypeId} {k : Value} {lk : Lit} (K : KeyLaw P kt) (hT : P.underlying t = some (.map kt et)) (hx : ev l x = some (.map (some b))) (hy : ev l y = some k) (h : Mp P kt w b es clock) (hk : keyOf P kt k = some lk)
   (next : ∀ es' w', Chg (fun q => q = b) w w' → Mp P kt w' b es' clock → (((∀ e ∈ es, e.key ≠ k) ∧ es' = es) ∨ ∃ j e, es[j]? = some e ∧ e.key = k ∧ es' = es.eraseIdx j) → W P N ops Q rest l w') :
   W P N ops Q (⟨none, .call ⟨.builtin .delete, #[x, y], #[t, kt]⟩, ty, pos, aft, none⟩ :: rest) l w := by
 obtain ⟨es', w', hr, hc, hm, hd⟩ := h.run_delete (ty := ty) K hT hk
 refine W.opNone (v := .tuple #[]) rfl rfl (fun a ha => ?_) (next es' w' hc hm hd)
 simp only [execOp, resolve, invoke, builtin, Sem.run_bind, Sem.run_pure, Result.andThen_ok, List.map_toArray, List.map_cons, List.map_nil, ha.ev hx, ha.ev hy, hr]
def It (w : World) (r b since : Nat) (seen : Array Nat) (c : Nat) : Prop := w.heap[r]? = some (.mapIter (some b) since seen c) ∧ since ≤ c
theorem It.lt {r since c : Nat} {seen : Array Nat} (h : It w r b since seen c) : r < w.heap.size := (Array.getElem?_eq_some_iff.1 h.1).1
theorem It.chg {S : Nat → Prop} {w' : World} {r since c : Nat} {seen : Array Nat} (h : It w r b since seen c) (g : Chg S w w') (hn : ¬ S r) : It w' r b since seen c := ⟨(g.block r h.lt hn).trans h.1, h.2⟩
theorem W.rangeM {t et : TypeId} (hT : P.underlying t = some (.map kt et)) (hx : ev l x = some (.map (some b))) (h : Mp P kt w b es clock) (hN : Nat.blt d N = true)
   (next : ∀ r w', r = w.heap.size → Ext w w' → It w' r b clock #[] clock → W P N ops Q rest ((d, .pointer (some ⟨r, 0, none⟩)) :: l) w') : W P N ops Q (⟨some d, .range t x, ty, pos, aft, none⟩ :: rest) l w := by
 refine W.op rfl rfl hN (fun a ha => ?_) (next w.heap.size _ rfl (Ext.alloc _ _) ⟨heap_alloc_last w _, Nat.le_refl _⟩)
 have hr := run_range_map (P := P) w t kt et b es.toArray clock hT h.heap
 simp only [execOp, ha.ev hx, Sem.run_bind, Sem.run_pure, hr, Result.andThen_ok]
theorem W.nextM {r c : Nat} {seen : Array Nat} (hx : ev l x = some (.pointer (some ⟨r, 0, none⟩))) (hi : It w r b clock seen c) (h : Mp P kt w b es clock) (hN : Nat.blt d N = true)
   (over : (∀ e ∈ es, seen.contains e.born = true) → W P N ops Q rest ((d, .tuple #[.bool false]) :: l) w)
   (more : ∀ (j : Nat) (e : MapEntry) (w' : World), es[j]? = some e → seen.contains e.born = false → Chg (fun q => q = r) w w' → It w' r b clock (seen.push e.born) clock → W P N ops Q rest ((d, .tuple #[.bool true, e.key, e.val]) :: l) w') :
   W P N ops Q (⟨some d, .next x false, ty, pos, aft, none⟩ :: rest) l w := by
 rcases run_next_at (P := P) w ty r b clock c seen es.toArray clock hi.1 h.heap (by simpa using h.born) hi.2 with ⟨h0, hr⟩ | ⟨e, he, w1, hw1, hr⟩
 refine W.op rfl rfl hN (fun a ha => ?_) (over fun e he => ?_)
 simp only [execOp, ha.ev hx, Sem.run_bind, Sem.run_pure, hr, Result.andThen_ok]
 have := Array.eq_empty_of_size_eq_zero h0
 unfold leftOf at this
 rw [Array.filter_eq_empty_iff] at this
 simpa using this e (by simpa using he)
 have hm : e ∈ es ∧ seen.contains e.born = false := by
   unfold leftOf at he
   simpa using he
 obtain ⟨j, hj⟩ := List.mem_iff_getElem?.1 hm.1
 have hX : Ext w w1 := by rcases hw1 with rfl | rfl; exact Ext.refl _; exact Ext.drew _
 have hl1 : r < w1.heap.size := Nat.lt_of_lt_of_le hi.lt hX.size
 refine W.op rfl rfl hN (fun a ha => ?_) (more j e _ hj hm.2 ((Chg.setBlock w1 r _).mono (fun k hk => hk) |> fun g => (hX.mono fun _ c => c.elim).trans g) ⟨setBlock_heap hl1, Nat.le_refl _⟩)
 simp only [execOp, ha.ev hx, Sem.run_bind, Sem.run_pure, hr, Result.andThen_ok]
theorem W.entryM {r j : Nat} {seen : Array Nat} {e : MapEntry} (hx : ev l x = some (.pointer (some ⟨r, 0, none⟩))) (hi : It w r b clock (seen.push e.born) clock) (h : Mp P kt w b es clock) (he : es[j]? = some e) (hN : Nat.blt d N = true)
   (next : W P N ops Q rest ((d, .tuple #[e.key, e.val]) :: l) w) : W P N ops Q (⟨some d, .entry x, ty, pos, aft, none⟩ :: rest) l w := by
 have hr := run_entry_at (P := P) w r b clock seen es.toArray clock e hi.1 h.heap (by simpa using List.mem_of_getElem? he) (by simpa using h.nodup)
 exact W.op rfl rfl hN (fun a ha => by simp only [execOp, ha.ev hx, Sem.run_bind, Sem.run_pure, hr, Result.andThen_ok]) next
end
end Go.Proofs.YthiijdbiikljpaaGreat.KW
namespace Go.Proofs.YthiijdbiikljpaaGreat.KW
open Go Go.RowKit
set_option linter.unusedVariables false
set_option linter.unusedSimpArgs false
def fillB (xs : List UInt8) (n i : Nat) : List UInt8 := xs.take i ++ List.replicate (n - i) 0
theorem fillB_set {xs : List UInt8} {n i : Nat} (hx : xs.length = n) (hi : i < n) : (fillB xs n i).set i (xs[i]'(by omega)) = fillB xs n (i + 1) := by
 unfold fillB
 rw [List.set_append_right _ _ (by rw [List.length_take]; omega), List.length_take, show i - min i xs.length = 0 by omega, show n - i = (n - (i + 1)) + 1 by omega, List.replicate_succ, List.set_cons_zero, List.take_succ_eq_append_getElem (by omega), List.append_assoc]
 rfl
theorem fillB_zero (xs : List UInt8) (n : Nat) : fillB xs n 0 = List.replicate n 0 := by unfold fillB; simp
theorem fillB_length {xs : List UInt8} {n i : Nat} (hx : xs.length = n) (hi : i ≤ n) : (fillB xs n i).length = n := by
 unfold fillB; rw [List.length_append, List.length_take, List.length_replicate]; omega
theorem fillB_setV {xs : List UInt8} {n i : Nat} (hx : xs.length = n) (hi : i < n) : ((fillB xs n i).map byteV).set i (byteV (xs[i]'(by omega))) = (fillB xs n (i + 1)).map byteV := by
 rw [← List.map_set, fillB_set hx hi]
theorem zeroCells_u8 (m : Nat) : Builtin.zeroCells (Value.int .u8 0).cells m = (List.replicate m (Value.int .u8 0)).toArray := by
 apply Array.ext'
 simp only [Builtin.zeroCells, Value.cells]
 apply List.ext_getElem?
 intro i
 by_cases hi : i < m
 simp [hi, Nat.mod_one]
 simp [hi]
theorem append_zeros_own {P : Program} (w : World) (base : Nat) (t tn ty e : TypeId) (i : TypeInfo) (kq kn : IntKind) (ht : P.underlying t = some (.slice e)) (htn : P.underlying tn = some (.int kn)) (hi : P.info? e = some i) (hz : i.zero = some (.int .u8 0))
   (hsize : i.size = 1) (hby : i.bytes = 1) (v : Value) (n : Nat) (xs : List Value) (hown : w.ownsRow base e 1 v n xs) (m : Nat) (hlim : n + m ≤ 140737488355328) (hbase : base ≤ w.heap.size) :
   ∃ v' w', (Builtin.append_ #[t, tn] ty #[v, .int kq m]).run P w = .ok v' w' ∧ w'.ownsRow base e 1 v' (n + m) (xs ++ List.replicate m (Value.int .u8 0)) ∧ w.grownBy w' v.ownBlock := by
 have h63 : n + m ≤ maxLen := by unfold maxLen; omega
 have hxl : xs.length = n := by simpa using hown.1
 have hlen : (xs ++ List.replicate m (Value.int .u8 0)).length = (n + m) * 1 := by rw [List.length_append, hxl, List.length_replicate, Nat.mul_one]
 have grown : ∀ (old : Nat), old < n + m → ∀ (row : Option Nat),
     (w.drew.alloc (.cells (xs.toArray ++ Builtin.zeroCells (Value.int .u8 0).cells m ++ Builtin.zeroCells (Value.int .u8 0).cells (grownCap w (n + m) old e - (n + m))) e)).ownsRow base e 1
       (.slice (some ⟨w.heap.size, 0, none⟩) (n + m) (grownCap w (n + m) old e)) (n + m) (xs ++ List.replicate m (Value.int .u8 0)) ∧
     w.grownBy (w.drew.alloc (.cells (xs.toArray ++ Builtin.zeroCells (Value.int .u8 0).cells m ++ Builtin.zeroCells (Value.int .u8 0).cells (grownCap w (n + m) old e - (n + m))) e)) row := by
   intro old ho row
   have hge := grownCap_ge w (n + m) old e
   have hcm : grownCap w (n + m) old e ≤ maxLen := grownCap_le_maxLen w (n + m) old e h63
   refine ⟨⟨hlen, .inr ⟨w.heap.size, _, _, rfl, hbase, heap_alloc_new w.drew _, hge, hcm, ?_, ?_⟩⟩, ⟨rfl, rfl, rfl, by simp, fun k hk _ => by first | exact heap_alloc_old w.drew _ hk | exact heap_alloc_old w.drew _ k hk⟩⟩
   have hz1 : (Value.int IntKind.u8 0).cells.size = 1 := rfl
   simp only [Array.size_append, List.size_toArray, size_zeroCells, hz1, hxl]
   omega
   rw [zeroCells_u8 m]
   simp only [Array.toList_append, List.append_assoc]
   rw [← List.append_assoc, ← hlen]
   exact List.take_left
 rcases hown.2 with ⟨rfl, rfl⟩ | ⟨g, cap, cur, rfl, hbg, hg, hnc, hcm, hcs, htake⟩
 have hx : xs = [] := List.eq_nil_of_length_eq_zero hxl
 subst hx
 by_cases hm : m = 0
 subst hm
 refine ⟨.slice none 0 0, w, ?_, World.ownsRow_nil w base e 1, ⟨rfl, rfl, rfl, Nat.le_refl _, fun _ _ _ => rfl⟩⟩
 have hw : IntKind.i64.wrap (0 : Int) = 0 := by decide
 simp [Builtin.append_, run_underlying ht, run_underlying htn, sizeOf, typeInfo, hi, asInt, asIntOf, hw]
 have hr := Lib.run_append_nil_zeros (P := P) w t tn ty e i (.int .u8 0) kq kn ht htn hi hz m (by omega) (by omega) (by omega) (by rw [hby]; omega)
 have hgr := grown 0 (by omega) (Value.ownBlock (.slice none 0 0))
 simp only [Nat.zero_add, List.nil_append, Array.empty_append] at hgr ⊢
 exact ⟨_, _, hr, hgr.1, hgr.2⟩
 by_cases hroom : n + m ≤ cap
 have hcs' : cur.size = cap := by simpa using hcs
 have hst := run_storeCells_at P g n e (List.replicate m (Value.int .u8 0)) 0 cur w hg (by simp; omega) (fun u hu => by rw [(List.mem_replicate.1 hu).2]; rfl)
 simp only [Nat.add_zero, List.length_replicate] at hst
 have hw : IntKind.i64.wrap (m : Int) = m := by rw [IntKind.wrap_i64]; omega
 have hneg : ¬ ((m : Int) < 0) := by omega
 have h48 : ¬ (281474976710656 < (m : Int)) := by omega
 have hr : (Builtin.append_ #[t, tn] ty #[.slice (some ⟨g, 0, none⟩) n cap, .int kq m]).run P w = .ok (.slice (some ⟨g, 0, none⟩) (n + m) cap) (w.setRow g (cur.toList.take n ++ List.replicate m (Value.int .u8 0) ++ cur.toList.drop (n + m)).toArray) := by
   by_cases hm : m = 0
   subst hm
   have hw : IntKind.i64.wrap (0 : Int) = 0 := by decide
   simp at hst
   simp [Builtin.append_, run_underlying ht, run_underlying htn, sizeOf, typeInfo, hi, hsize, hby, asInt, asIntOf, hw, hnc, Addr.add_lit, hst]
   simp [Builtin.append_, run_underlying ht, run_underlying htn, sizeOf, typeInfo, zeroValue, hi, hz, hsize, hby, asInt, asIntOf, hw, hneg, h48, hroom, Addr.add_lit, hm, zeroCells_u8, hst]
 refine ⟨_, _, hr, ⟨hlen, .inr ⟨g, cap, _, rfl, hbg, setRow_heap w g cur _ e _ hg, hroom, hcm, ?_, ?_⟩⟩, ⟨rfl, rfl, rfl, by simp, fun k _ hk => setRow_other w g k _ (fun e => hk (by simp [Value.ownBlock, e]))⟩⟩
 simp only [List.size_toArray, List.length_append, List.length_take, List.length_drop, Array.length_toList, List.length_replicate]
 omega
 have ht' : cur.toList.take n = xs := by simpa using htake
 rw [ht', ← hlen]
 exact List.take_left
 have holds : ∀ j u, xs[j]? = some u → w.cell? ((⟨g, 0, none⟩ : Addr).add j) = some u := hown.cells (g := g) rfl
 have hold := run_firstCells_some (P := P) w.drew i.size n ⟨g, 0, none⟩ n cap xs (by rw [hsize]; simpa using hxl) (by simpa using holds)
 have hr := Lib.run_append_grow_zeros (P := P) w t tn ty e i (.int .u8 0) kq kn ht htn hi hz (some ⟨g, 0, none⟩) n cap xs hold m (by omega) (by omega) (by omega) (by omega) (by rw [hby]; omega) (by rw [hby]; exact growslice_fits (by omega) (by omega))
 have hgr := grown cap (by omega) (Value.ownBlock (.slice (some ⟨g, 0, none⟩) n cap))
 exact ⟨_, _, hr, hgr.1, hgr.2⟩
section
variable {P : Program} {N : Nat} {Q : Exit → Act → World → Prop} {l : Env} {w : World} {ops : Array Oper} {rest : List Oper} {d : Tmp} {ty : TypeId} {pos : String} {aft : Array Edge}
variable {x y : Operand} {T T' : TypeId}
theorem W.copyB {e g o dLen dCap n c k : Nat} {ao : Option Addr} {cs ss : List Value} (hT : P.underlying T = some (.slice e)) (hs1 : (P.info? e).map (·.size) = some 1) (hx : ev l x = some (.slice (some ⟨g, o, none⟩) dLen dCap)) (hy : ev l y = some (.slice ao n c)) (hb : Bk w g cs) (hs : Sl w ao n c 1 ss) (h1 : ∀ u ∈ ss, u.oneCell' = true) (hk : k = Nat.min n dLen) (hl : o + k ≤ cs.length) (hN : Nat.blt d N = true)
   (next : ∀ w', Chg (fun q => q = g) w w' → Bk w' g (splice cs o (ss.take k)) → W P N ops Q rest ((d, .int .i64 (k : Int)) :: l) w') :
   W P N ops Q (⟨some d, .call ⟨.builtin .copy, #[x, y], #[T, T']⟩, ty, pos, aft, none⟩ :: rest) l w := by
 have hn : ss.length = n := by simpa using hs.len
 cases ao with
 | none =>
   have hc0 := hs.nil rfl
   have hle := hs.le
   have hn0 : n = 0 := by omega
   subst hn0
   have hk0 : k = 0 := by rw [hk]; exact Nat.zero_min _
   subst hk0
   have hrun := run_copy_none (P := P) w T T' ty e (some ⟨g, o, none⟩) none dLen dCap 0 c hT hs1 (Nat.zero_min _)
   refine W.op (v := .int .i64 ((0 : Nat) : Int)) (w' := w) rfl rfl hN (fun a ha => ?_) (next w (Chg.refl _ _) (by simpa [splice] using hb))
   simp only [execOp, resolve, invoke, builtin, Sem.run_bind, Sem.run_pure, Result.andThen_ok, List.map_toArray, List.map_cons, List.map_nil, ha.ev hx, ha.ev hy, hrun]
   rfl
 | some ad =>
   have hlk : (ss.take k).length = k := by rw [List.length_take, hn, hk]; exact Nat.min_eq_left (Nat.min_le_left _ _)
   have hrun := run_copy_cells (P := P) w T T' ty e g o dLen dCap ad n c (ss.take k) hT hs1 (by rw [hlk, hk]) ((hs.at_ ad rfl).take k) (fun j hj => by rw [hb.cell (List.getElem?_eq_getElem (by omega))]; rfl) (fun j hj => hb.frozen) (fun u hu => h1 u (List.mem_of_mem_take hu))
   obtain ⟨h2, h3⟩ := Bk.setCells (ss.take k) o w g cs hb
   refine W.op (v := .int .i64 (k : Int)) (w' := w.setCells g o (ss.take k)) rfl rfl hN (fun a ha => ?_) (next _ h3 h2)
   simp only [execOp, resolve, invoke, builtin, Sem.run_bind, Sem.run_pure, Result.andThen_ok, List.map_toArray, List.map_cons, List.map_nil, ha.ev hx, ha.ev hy, hrun, hlk]
   rfl
theorem W.appendN {e base m : Nat} {v : Value} {kq kn : IntKind} {z : Int} {xs : List UInt8} (hE : Elem P e 1 1 (.int .u8 0)) (hT : P.underlying T = some (.slice e)) (hT' : P.underlying T' = some (.int kn))
   (hx : ev l x = some v) (hy : ev l y = some (.int kq z)) (hz : z = (m : Int)) (ho : Ow w base e v xs) (hlen : xs.length + m ≤ 70368744177664) (hbase : base ≤ w.heap.size) (hN : Nat.blt d N = true)
   (next : ∀ v' w', Ow w' base e v' (xs ++ List.replicate m 0) → w.grownBy w' v.ownBlock → W P N ops Q rest ((d, v') :: l) w') :
   W P N ops Q (⟨some d, .call ⟨.builtin .append, #[x, y], #[T, T']⟩, ty, pos, aft, none⟩ :: rest) l w := by
 obtain ⟨i, hi, hz0, hsz, hby⟩ := hE.out
 subst hz
 obtain ⟨v', w', hrun, h1, h2⟩ := append_zeros_own (P := P) w base T T' ty e i kq kn hT hT' hi hz0 hsz hby v xs.length (xs.map byteV) ho m (by omega) hbase
 have e1 : xs.map byteV ++ List.replicate m (Value.int .u8 0) = (xs ++ List.replicate m (0 : UInt8)).map byteV := by rw [List.map_append, List.map_replicate]; rfl
 rw [e1] at h1
 refine W.op (v := v') (w' := w') rfl rfl hN (fun a ha => ?_) (next v' w' (by show World.ownsRow _ _ _ _ _ _ _; rw [List.length_append, List.length_replicate]; exact h1) h2)
 simp only [execOp, resolve, invoke, builtin, Sem.run_bind, Sem.run_pure, Result.andThen_ok, List.map_toArray, List.map_cons, List.map_nil, ha.ev hx, ha.ev hy, hrun]
theorem W.buildAF {t e n bytes : Nat} {z : Value} {ps : List (Nat × Operand)} {vs : List (Nat × Value)} (cells zs : List Value) (hE : Elem P e 1 bytes z) (hT : P.underlying t = some (.array n e)) (hz : (P.info? t).map (·.zero) = some (some (.agg zs.toArray))) (hp : evps l ps = some vs)
   (hf : Instr.fill (fun i => some (i * 1, 1)) zs.toArray vs = some cells.toArray) (hN : Nat.blt d N = true)
   (next : W P N ops Q rest ((d, .agg cells.toArray) :: l) w) : W P N ops Q (⟨some d, .build t ps.toArray, ty, pos, aft, none⟩ :: rest) l w := by
 obtain ⟨i, hi, hz', hsz, hby⟩ := hE.out
 refine W.op rfl rfl hN (fun a ha => ?_) next
 have hps : (ps.toArray.map fun (i, x) => (i, a.eval x)) = vs.toArray := by
   rw [List.map_toArray]; congr 1; exact ha.evps hp
 cases hq : P.info? t with
 | none => simp [hq] at hz
 | some it =>
   have hs : it.zero = some (.agg zs.toArray) := by simpa [hq] using hz
   simp only [execOp, hps, Instr.build, zeroValue, typeInfo]
   simp [hq, hs, run_underlying hT, sizeOf, typeInfo, hi, hsz, Value.cells]
   simp at hf
   rw [hf]
   rfl
theorem W.neqKey {e n : Nat} {a b : List UInt8} (hT : P.underlying T = some (.array n e)) (he : P.underlying e = some (.int .u8)) (hi : (P.info? e).map (·.size) = some 1) (hx : ev l x = some (.agg (a.map byteV).toArray)) (hy : ev l y = some (.agg (b.map byteV).toArray)) (ha : a.length = n) (hb : b.length = n) (hg : P.eqGuardType P.depth T = false) (hN : Nat.blt d N = true)
   (next : W P N ops Q rest ((d, .bool (decide (¬ a = b))) :: l) w) : W P N ops Q (⟨some d, .binOp .neq T x y T', ty, pos, aft, none⟩ :: rest) l w :=
 W.op rfl rfl hN (fun f hf => by
   have hsz : ∀ w, (sizeOf e).run P w = .ok 1 w := by
     intro w
     cases hq : P.info? e with
     | none => simp [hq] at hi
     | some i =>
       have hs : i.size = 1 := by simpa [hq] using hi
       simp [sizeOf, typeInfo, hq, hs]
   have he' : (eqGuard .neq T x y (.agg (a.map byteV).toArray) (.agg (b.map byteV).toArray)).run P w = .ok () w := by simp [eqGuard, hg]
   have ec : Extern.Stop.cell = byteV := rfl
   have hr : (binOp .neq T (.agg (a.map byteV).toArray) (.agg (b.map byteV).toArray)).run P w = .ok (.bool (decide (¬ a = b))) w := by
     rw [← ec, run_neq_struct, run_equalIn_bytes w 9998 T e n hT he hsz a b ha hb]
     have eb : (!(a == b)) = decide (¬ a = b) := by rw [Bool.eq_iff_iff]; simp
     simp only [Result.andThen_ok, eb]
   simp only [execOp, hf.ev hx, hf.ev hy, he', Sem.run_bind, Sem.run_pure, Result.andThen_ok, hr]) next
theorem W.constB {t e g n c : Nat} {cells : List Value} {xs : List UInt8} (hT : P.underlying t = some (.slice e)) (he : P.underlying e = some (.int .u8)) (hx : ev l x = some (.slice (some ⟨g, 0, none⟩) n c)) (hb : Bk w g cells) (hs : Bs w (some ⟨g, 0, none⟩) c xs) (hN : Nat.blt d N = true)
   (next : ∀ w', Chg (fun k => k = g) w w' → Bs w' (some ⟨g, 0, none⟩) c xs → W P N ops Q rest ((d, .slice (some ⟨g, 0, none⟩) n c) :: l) w') : W P N ops Q (⟨some d, .convert t t x, ty, pos, aft, none⟩ :: rest) l w := by
 obtain ⟨e', hg⟩ := hb
 have hlt := (Array.getElem?_eq_some_iff.1 hg).1
 obtain ⟨w', hw'⟩ : ∃ w', w' = w.freeze ⟨g, cells.length, none⟩ 1 := ⟨_, rfl⟩
 have hrun : (convert t t (.slice (some ⟨g, 0, none⟩) n c)).run P w = .ok (.slice (some ⟨g, 0, none⟩) n c) w' := by
   have hsh : w.shape? g = some (e', cells.length) := by simp [World.shape?, hg]
   rw [hw']
   simp [convert, run_underlying hT, run_underlying he, markStringish, hsh]
 have hoth : ∀ k, k ≠ g → w'.heap[k]? = w.heap[k]? := fun k hk => by
   rw [hw']
   unfold World.freeze
   rw [if_neg (by decide)]
   simp [Array.getElem?_modify, Ne.symm hk]
 have hgg : ∃ fz, w'.heap[g]? = some (.cells cells.toArray e' fz) := by
   rw [hw']
   unfold World.freeze
   rw [if_neg (by decide)]
   refine ⟨(cells.length, cells.length + 1), ?_⟩
   simp [Array.getElem?_modify, hg]
 have hsz : w.heap.size ≤ w'.heap.size := by
   rw [hw']
   unfold World.freeze
   rw [if_neg (by decide)]
   simp
 have hchg : Chg (fun k => k = g) w w' := ⟨by rw [hw']; unfold World.freeze; rw [if_neg (by decide)], by rw [hw']; unfold World.freeze; rw [if_neg (by decide)], by rw [hw']; unfold World.freeze; rw [if_neg (by decide)], hsz, fun k _ hk => hoth k hk⟩
 have hcell : ∀ ad : Addr, ad.block = g → w'.cell? ad = w.cell? ad := fun ad e => by
   obtain ⟨fz, hgg⟩ := hgg
   unfold World.cell?
   rw [e, hgg, hg]
 refine W.op (v := .slice (some ⟨g, 0, none⟩) n c) (w' := w') rfl rfl hN (fun a ha => ?_) (next w' hchg ⟨hs.le, hs.len, hs.nil, fun ad e j u hu => ?_⟩)
 simp only [execOp, ha.ev hx, Sem.run_bind, hrun, Result.andThen_ok, Sem.run_pure]
 obtain rfl := Option.some.inj e
 rw [hcell _ (by rw [add_block])]
 exact hs.at_ _ rfl j u hu
theorem W.eqlPtr {ad : Addr} (hT : P.underlying T = some (.pointer (P.pointee T))) (hx : ev l x = some (.pointer (some ad))) (hy : ev l y = some (.pointer none)) (hN : Nat.blt d N = true)
   (next : W P N ops Q rest ((d, .bool false) :: l) w) : W P N ops Q (⟨some d, .binOp .eql T x y T', ty, pos, aft, none⟩ :: rest) l w :=
 W.op rfl rfl hN (fun f ha => by
   have he : (eqGuard .eql T x y (.pointer (some ad)) (.pointer none)) = pure () := by unfold eqGuard; split <;> rfl
   simp only [execOp, ha.ev hx, ha.ev hy, he, Sem.run_bind, Sem.run_pure, Result.andThen_ok, run_eql_pointer_nil w T (some ad) hT]
   rfl) next
theorem W.sliceAH {t e n sz bytes g o m : Nat} {z : Value} {oh : Operand} {kk : IntKind} (hE : Elem P e sz bytes z) (hT : P.underlying t = some (.array n e)) (hx : ev l x = some (.pointer (some ⟨g, o, none⟩))) (hh : ev l oh = some (.int kk (m : Int))) (hm : m ≤ n) (h0 : 0 < n) (hN : Nat.blt d N = true)
   (next : W P N ops Q rest ((d, .slice (some ⟨g, o, none⟩) m n) :: l) w) : W P N ops Q (⟨some d, .slice t x none (some oh) none, ty, pos, aft, none⟩ :: rest) l w := by
 obtain ⟨i, hi, hz', hsz, hby⟩ := hE.out
 refine W.op rfl rfl hN (fun a ha => ?_) next
 have b1 : ∀ (code : BoundsCode), (Instr.sliceBound (.int kk (m : Int)) n code).run P w = .ok m w := by
   intro code
   have : (0 : Int) ≤ (m : Int) ∧ (m : Int) ≤ (n : Int) := by omega
   simp [Instr.sliceBound, asIntOf, this]
 have hn0 : ¬ n = 0 := by omega
 simp [execOp, ha.ev hx, ha.ev hh, Instr.sliceAt, run_underlying hT, Instr.sureAddr, Instr.sliceBounds, sizeOf, typeInfo, hi, hsz, add_mk, b1, hn0]
end
end Go.Proofs.YthiijdbiikljpaaGreat.KW
namespace Go.Proofs.YthiijdbiikljpaaGreat.Let
open Go Go.RowKit Go.Proofs.YthiijdbiikljpaaGreat.KW Go.Proofs.YthiijdbiikljpaaGreat.Words
set_option linter.unusedVariables false
set_option linter.unusedSimpArgs false
set_option maxRecDepth 100000
theorem ow_take {w : World} {base e c n : Nat} {bo : Option Addr} {xs : List UInt8} (h : Ow w base e (.slice bo xs.length c) xs) (hn : n ≤ xs.length) (h0 : bo = none → c = 0) : ∃ bo', (.slice (if c = 0 then bo else bo.map (·.add (0 * 1))) (n - 0) (c - 0) : Value) = .slice bo' (xs.take n).length c ∧ Ow w base e (.slice bo' (xs.take n).length c) (xs.take n) ∧ (∀ ad, bo' = some ad → ∃ a, bo = some a ∧ ad.block = a.block) := by
 have hl : (xs.take n).length = n := by rw [List.length_take]; omega
 rw [hl]
 rcases h.2 with ⟨h1, h2⟩ | ⟨g, cap, cur, hv, hb, hg, hnc, hcm, hcs, htake⟩
 injection h1 with h3 h4 h5
 subst h3; subst h5
 have hn0 : n = 0 := by omega
 subst hn0
 refine ⟨none, by simp, ?_, fun ad e => by cases e⟩
 have e : xs.take 0 = [] := rfl
 rw [e]
 exact Ow.nil _ _ _
 injection hv with h3 h4 h5
 subst h3; subst h5
 refine ⟨some ⟨g, 0, none⟩, ?_, ⟨by rw [List.length_map, hl, Nat.mul_one], .inr ⟨g, c, cur, by rw [hl], hb, hg, by omega, hcm, hcs, ?_⟩⟩, fun ad e => ⟨_, rfl, by obtain rfl := Option.some.inj e; rfl⟩⟩
 simp [add_mk]
 rw [hl, Nat.mul_one, List.map_take, ← htake, Nat.mul_one, List.take_take]
 congr 1
 omega
section
variable {P : Program} {N : Nat} {Q : Exit → Act → World → Prop} {l : Env} {w : World} {ops : Array Oper} {rest : List Oper} {d : Tmp} {ty : TypeId} {pos : String} {aft : Array Edge}
theorem W.sliceO {x oh : Operand} {t e c base k : Nat} {z : Value} {bytes : Nat} {kk : IntKind} {bo : Option Addr} {xs : List UInt8} (hE : Elem P e 1 bytes z) (hT : P.underlying t = some (.slice e)) (hx : ev l x = some (.slice bo xs.length c)) (ho : Ow w base 5 (.slice bo xs.length c) xs)
   (hh : ev l oh = some (.int kk (k : Int))) (hk : k ≤ xs.length) (hN : Nat.blt d N = true)
   (next : ∀ bo', Ow w base 5 (.slice bo' (xs.take k).length c) (xs.take k) → (∀ ad, bo' = some ad → ∃ a, bo = some a ∧ ad.block = a.block) → W P N ops Q rest ((d, .slice bo' (xs.take k).length c) :: l) w) :
   W P N ops Q (⟨some d, .slice t x none (some oh) none, ty, pos, aft, none⟩ :: rest) l w := by
 obtain ⟨i, hi', hz, hsz, hby⟩ := hE.out
 obtain ⟨_, _, he2, hS2, _⟩ := ownsRow_form ho
 injection he2 with e1 e2 e3
 subst e1; subst e3
 have hle := hS2.le
 obtain ⟨bo', hv, ho', hb'⟩ := ow_take ho hk hS2.nil
 refine W.op (v := .slice bo' (xs.take k).length c) (w' := w) rfl rfl hN (fun a ha => ?_) (next bo' ho' hb')
 have b1 : (Instr.sliceBound (.int kk (k : Int)) c (if true then .sliceAcap else .sliceAcap)).run P w = .ok k w := by
   have : (0 : Int) ≤ (k : Int) ∧ (k : Int) ≤ (c : Int) := by omega
   simp [Instr.sliceBound, asIntOf, this]
 have hrun : (Instr.slice t (.slice bo xs.length c) none (some (a.eval oh)) none).run P w = .ok (.slice bo' (xs.take k).length c) w := by
   rw [← hv, ha.ev hh]
   have b2 : ∀ (code : BoundsCode), (Instr.sliceBound (.int kk (k : Int)) c code).run P w = .ok k w := by
     intro code
     have : (0 : Int) ≤ (k : Int) ∧ (k : Int) ≤ (c : Int) := by omega
     simp [Instr.sliceBound, asIntOf, this]
   simp [Instr.slice, run_underlying hT, Instr.sliceBounds, sizeOf, typeInfo, hi', hsz, b2]
 simp only [execOp, Instr.sliceAt, ha.ev hx, Sem.run_bind, Sem.run_pure, Result.andThen_ok, run_underlying hT, Option.map_none, Option.map_some, hrun]
theorem W.capS {x : Operand} {T : TypeId} {ao : Option Addr} {n c e : Nat} (hx : ev l x = some (.slice ao n c)) (hT : P.underlying T = some (.slice e)) (hN : Nat.blt d N = true) (next : W P N ops Q rest ((d, .int .i64 (c : Int)) :: l) w) : W P N ops Q (⟨some d, .call ⟨.builtin .cap, #[x], #[T]⟩, ty, pos, aft, none⟩ :: rest) l w :=
 W.op rfl rfl hN (fun a ha => by
   simp only [execOp, resolve, invoke, builtin, List.map_toArray, List.map_cons, List.map_nil, ha.ev hx, Sem.run_bind, Sem.run_pure, Result.andThen_ok]
   simp [Builtin.cap_, run_underlying hT, goInt]) next
end
theorem Grow_ok (n : Nat) (w : World) (hn : n ≤ 10000000) :
   Ct Tryz.prog 114 #[.slice none 0 0, .int .i64 (n : Int)] w (fun v w' => Ow w' w.heap.size 5 v [] ∧ Ext w w') := by
 refine Ct.enter [(0, .slice none 0 0), (1, .int .i64 (n : Int))] Tryz.func114 rfl rfl rfl rfl ?_
 have h0 : Ow w w.heap.size 5 (.slice none 0 0) [] := Ow.nil _ _ _
 refine C.seq (C.region (W.assign rfl rfl (W.nil (At.thenCode (C.seq (C.seq (C.region (W.move rfl rfl (W.lssI rfl rfl rfl (W.nil (At.thenCode ?_)))))))))))
 refine C.condD rfl (fun c6 => ?_) (fun c6 => ?_)
 exact absurd c6 (by omega)
 refine C.skip (At.thenCode (C.seq (C.seq (C.region (W.move rfl rfl (W.move rfl rfl ?_))))))
 refine W.capS rfl Tryz.underlying22 rfl ?_
 refine W.move rfl rfl (W.lenS rfl Tryz.underlying22 rfl ?_)
 refine W.subI rfl rfl (by omega) rfl ?_
 refine W.subI rfl rfl (by omega) rfl ?_
 refine W.assign rfl rfl (W.nil (At.thenCode (C.seq (C.region (W.move rfl rfl (W.gtrI rfl rfl rfl (W.nil (At.thenCode ?_))))))))
 refine C.condD rfl (fun c16 => ?_) (fun c16 => ?_)
 refine C.region (W.move rfl rfl (W.move rfl rfl ?_))
 refine W.capS rfl Tryz.underlying22 rfl ?_
 refine W.sliceO (xs := []) (k := 0) (kk := .i64) E8 Tryz.underlying22 rfl h0 rfl (Nat.le_refl _) rfl ?_
 intro bo20 ho20 _
 refine W.move rfl rfl ?_
 refine W.appendN (m := n) E8 Tryz.underlying22 Tryz.underlying3 rfl rfl (by omega) ho20 (by simp; omega) (Nat.le_refl _) rfl ?_
 intro v22 w22 ho22 hg22
 have hX22 : Ext w w22 := (Chg.of_grown hg22).mono fun k hk => by
   have := World.ownsRow.lt ho20 k hk.symm
   omega
 rw [List.take_nil, List.nil_append] at ho22
 obtain ⟨a22, c22, rfl, hS22, _⟩ := ownsRow_form ho22
 refine W.move rfl rfl (W.lenS rfl Tryz.underlying22 rfl ?_)
 refine W.sliceO (k := 0) (kk := .i64) E8 Tryz.underlying22 rfl ho22 rfl (Nat.zero_le _) rfl ?_
 intro bo25 ho25 _
 rw [List.take_zero] at ho25 ⊢
 refine W.assign rfl rfl (W.nil (At.thenCode (C.seq (C.region (W.move rfl rfl (W.assign rfl rfl (W.nil (At.thenCode (C.ret ?_)))))))))
 refine At.ret1 Tryz.results114 rfl ?_
 first
 | exact ⟨ho25, hX22⟩
 | exact ⟨h0, Ext.refl _⟩
 refine C.skip (At.thenCode (C.seq (C.region (W.move rfl rfl (W.assign rfl rfl (W.nil (At.thenCode (C.ret ?_))))))))
 refine At.ret1 Tryz.results114 rfl ?_
 first
 | exact ⟨ho25, hX22⟩
 | exact ⟨h0, Ext.refl _⟩
def catL : List (List UInt8) → List UInt8
  | [] => []
  | x :: r => x ++ catL r
theorem catL_append (a b : List (List UInt8)) : catL (a ++ b) = catL a ++ catL b := by
 induction a with
 | nil => rfl
 | cons x r ih => simp only [List.cons_append, catL, ih, List.append_assoc]
theorem catL_take {l : List (List UInt8)} {i : Nat} (h : i < l.length) : catL (l.take (i + 1)) = catL (l.take i) ++ l[i]'h := by
 rw [List.take_succ_eq_append_getElem h, catL_append]; simp [catL]
theorem catL_le (l : List (List UInt8)) (i : Nat) : (catL (l.take i)).length ≤ (catL l).length := by
 have := congrArg List.length (congrArg catL (List.take_append_drop i l))
 rw [catL_append, List.length_append] at this
 omega
theorem EB : Elem Tryz.prog 22 1 24 (.slice none 0 0) := Elem.of (by kernel_rfl) rfl rfl
theorem Concat_ok (ao : Option Addr) (c : Nat) (ls : List (List UInt8)) (w : World) (hS : Bss w ao c ls) (hn : ls.length ≤ 1000000) (hl : (catL ls).length ≤ 10000000) :
   Ct Tryz.prog 103 #[.slice ao ls.length c] w (fun v w' => Ow w' w.heap.size 5 v (catL ls) ∧ Ext w w') := by
 refine Ct.enter [(0, .slice ao ls.length c)] Tryz.func103 rfl rfl rfl rfl ?_
 refine C.seq (C.region (W.assign rfl rfl (W.nil (At.thenCode (C.seq (C.region (W.assign rfl rfl (W.nil (At.thenCode (C.seq (C.seq ?_)))))))))))
 refine C.region (W.move rfl rfl (W.lenS rfl Tryz.underlying162 rfl (W.move rfl rfl (W.nil (At.thenCode (C.block ?_))))))
 refine C.loop (X := Nat) (fun x_ => [(0, .slice ao ls.length c), (3, .int .i64 ((catL (ls.take x_)).length : Int)), (9, .slice ao ls.length c), (10, .int .i64 (ls.length : Int)), (11, .int .i64 (x_ : Int))]) (fun x_ w1 => w = w1 ∧ x_ ≤ ls.length) (fun x_ => ls.length - x_) (0) (sc rfl (sc rfl (sc rfl (sc rfl (sc rfl (Sub.nil)))))) ?start1 ?_
 case start1 =>
   show w = _ ∧ (0) ≤ ls.length
   exact ⟨rfl, by omega⟩
 rintro i w1 hI_
 replace hI_ : w = w1 ∧ i ≤ ls.length := hI_
 obtain ⟨rfl, hi⟩ := hI_
 refine C.weaken (l' := [(0, .slice ao ls.length c), (3, .int .i64 ((catL (ls.take i)).length : Int)), (9, .slice ao ls.length c), (10, .int .i64 (ls.length : Int)), (11, .int .i64 (i : Int))]) (sc rfl (sc rfl (sc rfl (sc rfl (sc rfl (Sub.nil)))))) ?_
 refine C.seq (C.region (W.lssI rfl rfl rfl (W.nil (At.thenCode (C.seq ?_)))))
 refine C.condD rfl (fun c12 => ?_) (fun c12 => ?_)
 refine C.skip (At.thenCode (C.seq (C.block (C.seq (C.region ?_)))))
 have hlt : i < ls.length := by omega
 obtain ⟨vs, hvs, hrep⟩ := hS
 obtain ⟨u, hu, a, c', rfl, hSx⟩ := hrep i hlt
 have hpn := catL_take hlt
 have hpl := catL_le ls i
 have hpl' := catL_le ls (i + 1)
 rw [hpn, List.length_append] at hpl'
 refine W.idx EB Tryz.underlying162 Tryz.underlying22 rfl rfl hvs rfl (by omega) (by rw [Int.toNat_natCast]; exact hu) rfl rfl ?_
 intro p13
 -- read with the address
 refine W.assign rfl rfl (W.nil (At.thenCode (C.seq (C.region (W.move rfl rfl (W.move rfl rfl (W.lenS rfl Tryz.underlying22 rfl ?_)))))))
 refine W.addI rfl rfl (by omega) rfl ?_
 refine W.assign rfl rfl (W.nil (At.thenCode (C.seq (C.region (W.move rfl rfl (W.lssI rfl rfl rfl (W.nil (At.thenCode ?_))))))))
 refine C.condD rfl (fun c20 => ?_) (fun c20 => ?_)
 exact absurd c20 (by omega)
 refine C.skip (At.blockNormal (At.thenCode (C.region ?_)))
 refine W.addI rfl rfl (by omega) rfl ?_
 refine W.move rfl rfl (W.nil ?_)
 refine At.thenRound (i + 1) (sc rfl (sc (look_eq rfl (by rw [hpn, List.length_append]; congr 1)) (sc rfl (sc rfl (sc (look_eq rfl (by rw [show (i : Int) + 1 = ((i + 1 : Nat) : Int) by omega])) (Sub.nil)))))) (show w = _ ∧ (i + 1) ≤ ls.length from ?_) (show ls.length - (i + 1) < ls.length - i from ?_)
 exact ⟨rfl, by omega⟩
 omega
 obtain rfl : i = ls.length := by omega
 rw [List.take_length]
 refine C.exit (At.thenExit (At.thenExit (At.blockSelf (At.thenCode (C.seq (C.region (W.move rfl rfl ?_)))))))
 refine W.call Tryz.call114 rfl (Let.Grow_ok (catL ls).length _ hl) rfl ?_
 rintro v24 w24 ⟨ho24, hX24⟩
 refine W.assign rfl rfl (W.nil (At.thenCode (C.seq (C.seq (C.region (W.move rfl rfl (W.lenS rfl Tryz.underlying162 rfl (W.move rfl rfl (W.nil (At.thenCode (C.block ?_)))))))))))
 refine C.loop (X := Nat × Value) (fun x_ => [(0, .slice ao ls.length c), (6, x_.2), (25, .slice ao ls.length c), (26, .int .i64 (ls.length : Int)), (27, .int .i64 (x_.1 : Int))]) (fun x_ w2 => Ext w w2 ∧ x_.1 ≤ ls.length ∧ Ow w2 w.heap.size 5 x_.2 (catL (ls.take x_.1))) (fun x_ => ls.length - x_.1) (0, v24) (sc rfl (sc rfl (sc rfl (sc rfl (sc rfl (Sub.nil)))))) ?start2 ?_
 case start2 =>
   show Ext w _ ∧ (0) ≤ ls.length ∧ Ow _ w.heap.size 5 (v24) (catL (ls.take (0)))
   exact ⟨hX24, by omega, ho24⟩
 rintro ⟨i, v⟩ w2 hI_
 replace hI_ : Ext w w2 ∧ i ≤ ls.length ∧ Ow w2 w.heap.size 5 v (catL (ls.take i)) := hI_
 obtain ⟨hX2, hi, hO2⟩ := hI_
 refine C.weaken (l' := [(0, .slice ao ls.length c), (6, v), (25, .slice ao ls.length c), (26, .int .i64 (ls.length : Int)), (27, .int .i64 (i : Int))]) (sc rfl (sc rfl (sc rfl (sc rfl (sc rfl (Sub.nil)))))) ?_
 refine C.seq (C.region (W.lssI rfl rfl rfl (W.nil (At.thenCode (C.seq ?_)))))
 refine C.condD rfl (fun c28 => ?_) (fun c28 => ?_)
 refine C.skip (At.thenCode (C.seq (C.block (C.seq (C.region ?_)))))
 have hlt : i < ls.length := by omega
 obtain ⟨vs, hvs, hrep⟩ := hS.ext hX2
 obtain ⟨u, hu, a, c', rfl, hSx⟩ := hrep i hlt
 have hpn := catL_take hlt
 have hpl' := catL_le ls (i + 1)
 rw [hpn, List.length_append] at hpl'
 refine W.idx EB Tryz.underlying162 Tryz.underlying22 rfl rfl hvs rfl (by omega) (by rw [Int.toNat_natCast]; exact hu) rfl rfl ?_
 intro p29
 -- read with the address
 refine W.assign rfl rfl (W.nil (At.thenCode (C.region (W.move rfl rfl (W.move rfl rfl ?_)))))
 refine W.appendB (ys := ls[i]'hlt) E8 Tryz.underlying22 rfl rfl hO2 hSx (by omega) hX2.size rfl ?_
 intro v33 w33 ho33 hg33 _
 have hX33 : Ext w w33 := hX2.news (Chg.of_grown hg33) (fun k hk => Or.inr ((World.ownsRow.lt hO2 k hk.symm).1))
 refine W.assign rfl rfl (W.nil (At.blockNormal (At.thenCode (C.region ?_))))
 refine W.addI rfl rfl (by omega) rfl ?_
 refine W.move rfl rfl (W.nil ?_)
 refine At.thenRound (i + 1, v33) (sc rfl (sc rfl (sc rfl (sc rfl (sc (look_eq rfl (by rw [show (i : Int) + 1 = ((i + 1 : Nat) : Int) by omega])) (Sub.nil)))))) (show Ext w _ ∧ (i + 1) ≤ ls.length ∧ Ow _ w.heap.size 5 (v33) (catL (ls.take (i + 1))) from ?_) (show ls.length - (i + 1) < ls.length - i from ?_)
 exact ⟨hX33, by omega, by rw [hpn]; exact ho33⟩
 omega
 obtain rfl : i = ls.length := by omega
 rw [List.take_length] at hO2
 refine C.exit (At.thenExit (At.thenExit (At.blockSelf (At.thenCode (C.seq (C.region (W.move rfl rfl (W.assign rfl rfl (W.nil (At.thenCode (C.ret ?_)))))))))))
 refine At.ret1 Tryz.results103 rfl ?_
 exact ⟨hO2, hX2⟩
end Go.Proofs.YthiijdbiikljpaaGreat.Let
