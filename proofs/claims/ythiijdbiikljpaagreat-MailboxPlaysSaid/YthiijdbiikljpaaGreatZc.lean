/- Chapter 11 as plain functions on lists of bytes: what is written, what is read, and that both fit. Package sha and the reference's Sha: what they compute, and their walks. The walks of package modp and of the reference's functions modulo P: what each returns, for all arguments. Numbers modulo N: the reference's MulN, AddN, SubN. The walks of package group and of the reference's functions of chapter 8. -/
import Derived.Test.YthiijdbiikljpaaGreatZb
import Derived.Test.YthiijdbiikljpaaGreatZa
import Derived.Test.YthiijdbiikljpaaGreatProg
namespace Go.Proofs.YthiijdbiikljpaaGreat.Cod
open Go Go.RowKit Go.Proofs.YthiijdbiikljpaaGreat.KW Go.Proofs.YthiijdbiikljpaaGreat.Words Go.Proofs.YthiijdbiikljpaaGreat.Grp
set_option linter.unusedVariables false
set_option linter.unusedSimpArgs false
theorem be64_beNat {l : List UInt8} (h : l.length = 8) : be64 (beNat l) = l := by
 obtain ⟨a, b, c, d, e, f, g, i, rfl⟩ : ∃ a b c d e f g i, l = [a, b, c, d, e, f, g, i] := by
   match l, h with
   | [a, b, c, d, e, f, g, i], _ => exact ⟨a, b, c, d, e, f, g, i, rfl⟩
 have ha := UInt8.toNat_lt a
 have hb := UInt8.toNat_lt b
 have hc := UInt8.toNat_lt c
 have hd := UInt8.toNat_lt d
 have he := UInt8.toNat_lt e
 have hf := UInt8.toNat_lt f
 have hg := UInt8.toNat_lt g
 have hi := UInt8.toNat_lt i
 simp only [beNat, be64, be32, List.foldl_cons, List.foldl_nil, List.cons_append, List.nil_append, List.cons.injEq, and_true]
 refine ⟨?_, ?_, ?_, ?_, ?_, ?_, ?_, ?_⟩ <;> (apply UInt8.toNat_inj.1; rw [ofNat_toNat]; omega)
theorem beNat8_lt {l : List UInt8} (h : l.length = 8) : beNat l < 18446744073709551616 := by
 have := beNat_lt l 8 h
 have e : (256 : Nat) ^ 8 = 18446744073709551616 := by decide
 omega
abbrev St := Nat × List UInt8
def failS (e : Nat) (s : St) : St := if s.1 = 0 then (e, []) else s
def numS (s : St) : Nat × St := if s.1 = 0 then (if s.2.length < 8 then (0, (4, [])) else (beNat (s.2.take 8), (0, s.2.drop 8))) else (0, s)
def takeS (n : Nat) (s : St) : List UInt8 × St := if s.1 = 0 then (if s.2.length < n then ([], (4, [])) else (s.2.take n, (0, s.2.drop n))) else ([], s)
def intS (m : Nat) (s : St) : Nat × St := if m < (numS s).1 then (0, failS 2 (numS s).2) else numS s
def elemS (s : St) : Nat × St := ((numS s).1, if Rt (numS s).1 then (numS s).2 else failS 2 (numS s).2)
def zeros32 : List UInt8 := List.replicate 32 0
def keyS (s : St) : List UInt8 × St := ((takeS 32 s).1 ++ List.replicate (32 - (takeS 32 s).1.length) 0, (takeS 32 s).2)
def sizeS (n : Nat) (s : St) : Nat × St := ((intS 1048576 s).1, if n = 0 ∧ 0 < (intS 1048576 s).1 then failS 2 (intS 1048576 s).2 else (intS 1048576 s).2)
def overS (s : St) : Nat := if s.1 = 0 then (if s.2 = [] then 0 else 2) else s.1
def Ok (s : St) : Prop := s.1 ≠ 0 → s.2 = []
theorem numS_bad {s : St} (h : s.1 ≠ 0) : numS s = (0, s) := if_neg h
theorem takeS_bad {n : Nat} {s : St} (h : s.1 ≠ 0) : takeS n s = ([], s) := if_neg h
theorem failS_ne {e : Nat} {s : St} (h : e ≠ 0) : (failS e s).1 ≠ 0 := by
 unfold failS; split
 exact h
 assumption
theorem numS_lt (s : St) : (numS s).1 < 18446744073709551616 := by
 unfold numS; split
 split
 show (0 : Nat) < _; decide
 exact beNat8_lt (by rw [List.length_take]; omega)
 show (0 : Nat) < _; decide
theorem intS_le (m : Nat) (s : St) : (intS m s).1 ≤ m := by
 unfold intS; split
 exact Nat.zero_le _
 omega
theorem takeS_len (n : Nat) (s : St) : (takeS n s).1.length ≤ n := by
 unfold takeS; split
 split
 exact Nat.zero_le _
 rw [List.length_take]; omega
 exact Nat.zero_le _
theorem keyS_len (s : St) : (keyS s).1.length = 32 := by
 have := takeS_len 32 s
 unfold keyS
 rw [List.length_append, List.length_replicate]; omega
theorem takeS_ok {n : Nat} {s : St} (h : (takeS n s).2.1 = 0) : s.1 = 0 ∧ n ≤ s.2.length ∧ takeS n s = (s.2.take n, (0, s.2.drop n)) := by
 unfold takeS at h ⊢
 split at h
 split at h
 exact absurd h (by decide)
 rename_i h1 h2; rw [if_pos h1, if_neg h2]; exact ⟨h1, by omega, rfl⟩
 rename_i h1; exact absurd h h1
theorem numS_ok {s : St} (h : (numS s).2.1 = 0) : s.1 = 0 ∧ 8 ≤ s.2.length ∧ numS s = (beNat (s.2.take 8), (0, s.2.drop 8)) := by
 unfold numS at h ⊢
 split at h
 split at h
 exact absurd h (by decide)
 rename_i h1 h2; rw [if_pos h1, if_neg h2]; exact ⟨h1, by omega, rfl⟩
 rename_i h1; exact absurd h h1
theorem failS_ok {e : Nat} {s : St} (h : (failS e s).1 = 0) (he : e ≠ 0) : False := failS_ne he h
theorem intS_ok {m : Nat} {s : St} (h : (intS m s).2.1 = 0) : (numS s).2.1 = 0 ∧ intS m s = numS s ∧ (numS s).1 ≤ m := by
 unfold intS at h ⊢
 split at h
 exact (failS_ok h (by decide)).elim
 rename_i h1; rw [if_neg h1]; exact ⟨h, rfl, by omega⟩
theorem sizeS_ok {n : Nat} {s : St} (h : (sizeS n s).2.1 = 0) : (intS 1048576 s).2.1 = 0 ∧ sizeS n s = intS 1048576 s ∧ (n = 0 → (intS 1048576 s).1 = 0) := by
 unfold sizeS at h ⊢
 by_cases hr : n = 0 ∧ 0 < (intS 1048576 s).1
 rw [if_pos hr] at h; exact (failS_ok h (by decide)).elim
 rw [if_neg hr] at h ⊢; exact ⟨h, rfl, fun e => by omega⟩
theorem keyS_ok {s : St} (h : (keyS s).2.1 = 0) : s.1 = 0 ∧ 32 ≤ s.2.length ∧ keyS s = (s.2.take 32, (0, s.2.drop 32)) := by
 obtain ⟨h1, h2, h3⟩ := takeS_ok (n := 32) (s := s) h
 refine ⟨h1, h2, ?_⟩
 unfold keyS
 rw [h3]
 show ((s.2.take 32) ++ List.replicate (32 - (s.2.take 32).length) 0, _) = _
 have e : (s.2.take 32).length = 32 := by rw [List.length_take]; omega
 rw [e, Nat.sub_self, List.replicate_zero, List.append_nil]
theorem numS_be64 (x : Nat) (h : x < 18446744073709551616) (r : List UInt8) : numS (0, be64 x ++ r) = (x, (0, r)) := by
 have e : (be64 x ++ r).take 8 = be64 x := List.take_left' (be64_length x)
 have d : (be64 x ++ r).drop 8 = r := List.drop_left' (be64_length x)
 unfold numS
 rw [if_pos rfl, if_neg (by simp only [List.length_append, be64_length]; omega)]
 simp only [e, d, beNat_be64 x h]
theorem takeS_app (b r : List UInt8) : takeS b.length (0, b ++ r) = (b, (0, r)) := by
 unfold takeS
 rw [if_pos rfl, if_neg (by simp)]
 simp only [List.take_left, List.drop_left]
theorem takeS_app' {n : Nat} {b : List UInt8} (h : b.length = n) (r : List UInt8) : takeS n (0, b ++ r) = (b, (0, r)) := by subst h; exact takeS_app b r
theorem keyS_app {k : List UInt8} (h : k.length = 32) (r : List UInt8) : keyS (0, k ++ r) = (k, (0, r)) := by
 unfold keyS
 rw [takeS_app' h]
 simp [h]
theorem intS_be64 {m x : Nat} (h : x < 18446744073709551616) (hm : x ≤ m) (r : List UInt8) : intS m (0, be64 x ++ r) = (x, (0, r)) := by
 unfold intS
 rw [numS_be64 x h, if_neg (by simpa using hm)]
theorem sizeS_be64 {n x : Nat} (hm : x ≤ 1048576) (hn : n = 0 → x = 0) (r : List UInt8) : sizeS n (0, be64 x ++ r) = (x, (0, r)) := by
 unfold sizeS
 rw [intS_be64 (by omega) hm, if_neg (by rintro ⟨h1, h2⟩; have := hn h1; simp only at h2; omega)]
theorem numS_back {s : St} (h : (numS s).2.1 = 0) : s = (0, be64 (numS s).1 ++ (numS s).2.2) := by
 obtain ⟨h1, h2, h3⟩ := numS_ok h
 rw [h3]
 show s = (0, be64 (beNat (s.2.take 8)) ++ s.2.drop 8)
 rw [be64_beNat (by rw [List.length_take]; omega), List.take_append_drop]
 exact Prod.ext h1 rfl
theorem takeS_back {n : Nat} {s : St} (h : (takeS n s).2.1 = 0) : s = (0, (takeS n s).1 ++ (takeS n s).2.2) ∧ (takeS n s).1.length = n := by
 obtain ⟨h1, h2, h3⟩ := takeS_ok h
 rw [h3]
 refine ⟨?_, by show (s.2.take n).length = n; rw [List.length_take]; omega⟩
 show s = (0, s.2.take n ++ s.2.drop n)
 rw [List.take_append_drop]
 exact Prod.ext h1 rfl
theorem keyS_back {s : St} (h : (keyS s).2.1 = 0) : s = (0, (keyS s).1 ++ (keyS s).2.2) := by
 obtain ⟨h1, h2, h3⟩ := keyS_ok h
 rw [h3]
 show s = (0, s.2.take 32 ++ s.2.drop 32)
 rw [List.take_append_drop]
 exact Prod.ext h1 rfl
abbrev Ent := Nat × List UInt8
def encEnts : List Ent → List UInt8
  | [] => []
  | (x, b) :: r => be64 x ++ b ++ encEnts r
def sizeE : List Ent → Nat
  | [] => 0
  | (_, b) :: _ => b.length
def longE (l : List Ent) : Prop := ∃ p ∈ l, 1048576 < p.2.length
def wrongE (l : List Ent) : Prop := ∃ p ∈ l, p.2.length ≠ sizeE l ∨ ¬ Rt p.1
instance (l : List Ent) : Decidable (longE l) := by unfold longE; infer_instance
instance (l : List Ent) : Decidable (wrongE l) := by unfold wrongE; infer_instance
def entsE (l : List Ent) : Nat := if 1000 < l.length ∨ longE l then 3 else if wrongE l then 1 else 0
def entsB (l : List Ent) : List UInt8 := if entsE l = 0 then be64 l.length ++ be64 (sizeE l) ++ encEnts l else []
def rdEnts (k : Nat) : Nat → St → List Ent × St
  | 0, s => ([], s)
  | n + 1, s => if s.1 = 0 then (((elemS s).1, (takeS k (elemS s).2).1) :: (rdEnts k n (takeS k (elemS s).2).2).1, (rdEnts k n (takeS k (elemS s).2).2).2) else ([], s)
def entsS (b : List UInt8) : List Ent × St := rdEnts (sizeS (intS 1000 (0, b)).1 (intS 1000 (0, b)).2).1 (intS 1000 (0, b)).1 (sizeS (intS 1000 (0, b)).1 (intS 1000 (0, b)).2).2
def entsRE (b : List UInt8) : Nat := overS (entsS b).2
def entsR (b : List UInt8) : List Ent := if entsRE b = 0 then (entsS b).1 else []
theorem overS_ok {s : St} (h : overS s = 0) : s = (0, []) := by
 unfold overS at h
 split at h
 rename_i h1
 split at h
 rename_i h2; exact Prod.ext h1 h2
 exact absurd h (by decide)
 rename_i h1; exact absurd h h1
structure NoteD where
  seq : Nat
  ack : Nat
  pay : List UInt8
def NoteOk (n : NoteD) : Prop := n.seq < 18446744073709551616 ∧ n.ack < 18446744073709551616 ∧ n.pay.length = 32
def noteB (n : NoteD) : List UInt8 := be64 n.seq ++ be64 n.ack ++ n.pay
def zeroNote : NoteD := ⟨0, 0, zeros32⟩
def noteS (b : List UInt8) : NoteD × St := (⟨(numS (0, b)).1, (numS (numS (0, b)).2).1, (keyS (numS (numS (0, b)).2).2).1⟩, (keyS (numS (numS (0, b)).2).2).2)
def noteRE (b : List UInt8) : Nat := overS (noteS b).2
def noteR (b : List UInt8) : NoteD := if noteRE b = 0 then (noteS b).1 else zeroNote
structure SubD where
  user : List UInt8
  x : Nat
  box : List UInt8
  c1 : Nat
  s1 : Nat
  c2 : Nat
  s2 : Nat
def SubOk (s : SubD) : Prop := s.user.length = 32 ∧ s.x < 18446744073709551616 ∧ s.c1 < 18446744073709551616 ∧ s.s1 < 18446744073709551616 ∧ s.c2 < 18446744073709551616 ∧ s.s2 < 18446744073709551616
def zeroSub : SubD := ⟨zeros32, 0, [], 0, 0, 0, 0⟩
def subE (s : SubD) : Nat := if 1048576 < s.box.length then 3 else if Rt s.x then 0 else 1
def subB (s : SubD) : List UInt8 := if subE s = 0 then s.user ++ (be64 s.x ++ (be64 s.box.length ++ (s.box ++ (be64 s.c1 ++ (be64 s.s1 ++ (be64 s.c2 ++ be64 s.s2)))))) else []
def sub1 (b : List UInt8) := keyS (0, b)
def sub2 (b : List UInt8) := elemS (sub1 b).2
def sub3 (b : List UInt8) := intS 1048576 (sub2 b).2
def sub4 (b : List UInt8) := takeS (sub3 b).1 (sub3 b).2
def sub5 (b : List UInt8) := numS (sub4 b).2
def sub6 (b : List UInt8) := numS (sub5 b).2
def sub7 (b : List UInt8) := numS (sub6 b).2
def sub8 (b : List UInt8) := numS (sub7 b).2
def subS (b : List UInt8) : SubD := ⟨(sub1 b).1, (sub2 b).1, (sub4 b).1, (sub5 b).1, (sub6 b).1, (sub7 b).1, (sub8 b).1⟩
def subRE (b : List UInt8) : Nat := overS (sub8 b).2
def subR (b : List UInt8) : SubD := if subRE b = 0 then subS b else zeroSub
abbrev Let := List UInt8 × List UInt8
structure BatD where
  round : Int
  chain : Int
  inner : List Nat
  lets : List Let
def BatOk (x : BatD) : Prop := (-9223372036854775808 ≤ x.round ∧ x.round ≤ 9223372036854775807) ∧ (-9223372036854775808 ≤ x.chain ∧ x.chain ≤ 9223372036854775807) ∧ (∀ y ∈ x.inner, y < 18446744073709551616) ∧ ∀ p ∈ x.lets, p.1.length = 32
def zeroBat : BatD := ⟨0, 0, [], []⟩
def sizeL : List Let → Nat
  | [] => 0
  | (_, b) :: _ => b.length
def longL (l : List Let) : Prop := ∃ p ∈ l, 1048576 < p.2.length
def wrongL (l : List Let) : Prop := ∃ p ∈ l, p.2.length ≠ sizeL l
instance (l : List Let) : Decidable (longL l) := by unfold longL; infer_instance
instance (l : List Let) : Decidable (wrongL l) := by unfold wrongL; infer_instance
def putsL : List Nat → List UInt8
  | [] => []
  | x :: r => be64 x ++ putsL r
def encLets : List Let → List UInt8
  | [] => []
  | (k, b) :: r => k ++ b ++ encLets r
def batE (x : BatD) : Nat := if 20 < x.inner.length ∨ 1000 < x.lets.length ∨ longL x.lets then 3 else if x.round < 0 ∨ x.chain < 0 ∨ wrongL x.lets then 1 else 0
def batB (x : BatD) : List UInt8 := if batE x = 0 then be64 x.round.toNat ++ (be64 x.chain.toNat ++ (be64 x.inner.length ++ (putsL x.inner ++ (be64 x.lets.length ++ (be64 (sizeL x.lets) ++ encLets x.lets))))) else []
def rdNums : Nat → St → List Nat × St
  | 0, s => ([], s)
  | n + 1, s => ((numS s).1 :: (rdNums n (numS s).2).1, (rdNums n (numS s).2).2)
def rdLets (k : Nat) : Nat → St → List Let × St
  | 0, s => ([], s)
  | n + 1, s => if s.1 = 0 then (((keyS s).1, (takeS k (keyS s).2).1) :: (rdLets k n (takeS k (keyS s).2).2).1, (rdLets k n (takeS k (keyS s).2).2).2) else ([], s)
def maxInt : Nat := 9223372036854775807
def bat1 (b : List UInt8) := intS maxInt (0, b)
def bat2 (b : List UInt8) := intS maxInt (bat1 b).2
def bat3 (b : List UInt8) := intS 20 (bat2 b).2
def bat4 (b : List UInt8) := rdNums (bat3 b).1 (bat3 b).2
def bat5 (b : List UInt8) := intS 1000 (bat4 b).2
def bat6 (b : List UInt8) := sizeS (bat5 b).1 (bat5 b).2
def bat7 (b : List UInt8) := rdLets (bat6 b).1 (bat5 b).1 (bat6 b).2
theorem bat1_eq (b : List UInt8) : bat1 b = intS maxInt (0, b) := rfl
theorem bat2_eq (b : List UInt8) : bat2 b = intS maxInt (bat1 b).2 := rfl
theorem bat3_eq (b : List UInt8) : bat3 b = intS 20 (bat2 b).2 := rfl
theorem bat4_eq (b : List UInt8) : bat4 b = rdNums (bat3 b).1 (bat3 b).2 := rfl
theorem bat5_eq (b : List UInt8) : bat5 b = intS 1000 (bat4 b).2 := rfl
theorem bat6_eq (b : List UInt8) : bat6 b = sizeS (bat5 b).1 (bat5 b).2 := rfl
theorem bat7_eq (b : List UInt8) : bat7 b = rdLets (bat6 b).1 (bat5 b).1 (bat6 b).2 := rfl
def batS (b : List UInt8) : BatD := ⟨((bat1 b).1 : Int), ((bat2 b).1 : Int), (bat4 b).1, (bat7 b).1⟩
def batRE (b : List UInt8) : Nat := overS (bat7 b).2
def batR (b : List UInt8) : BatD := if batRE b = 0 then batS b else zeroBat
theorem rdNums_bad {n : Nat} {s : St} (h : s.1 ≠ 0) : (rdNums n s).2 = s := by
 induction n generalizing s with
 | zero => rfl
 | succ n ih => unfold rdNums; rw [numS_bad h]; exact ih h
theorem rdLets_bad {k n : Nat} {s : St} (h : s.1 ≠ 0) : rdLets k n s = ([], s) := by
 cases n with
 | zero => rfl
 | succ n => unfold rdLets; rw [if_neg h]
theorem rdNums_len (n : Nat) (s : St) : (rdNums n s).1.length = n := by
 induction n generalizing s with
 | zero => rfl
 | succ n ih => unfold rdNums; rw [List.length_cons, ih]
theorem rdNums_lt (n : Nat) (s : St) : ∀ x ∈ (rdNums n s).1, x < 18446744073709551616 := by
 induction n generalizing s with
 | zero => intro x hx; cases hx
 | succ n ih =>
   intro x hx
   unfold rdNums at hx
   rcases List.mem_cons.1 hx with rfl | hx
   exact numS_lt s
   exact ih _ x hx
theorem rdLets_key {k : Nat} (n : Nat) (s : St) : ∀ p ∈ (rdLets k n s).1, p.1.length = 32 := by
 induction n generalizing s with
 | zero => intro x hx; cases hx
 | succ n ih =>
   intro p hp
   unfold rdLets at hp
   split at hp
   rcases List.mem_cons.1 hp with rfl | hp
   exact keyS_len s
   exact ih _ p hp
   cases hp
theorem batS_ok (b : List UInt8) : BatOk (batS b) := by
 have q1 := bat1_eq b
 have q2 := bat2_eq b
 have q3 := bat3_eq b
 have q4 := bat4_eq b
 have q5 := bat5_eq b
 have q6 := bat6_eq b
 have q7 := bat7_eq b
 unfold batS
 generalize bat1 b = p1 at *
 generalize bat2 b = p2 at *
 generalize bat3 b = p3 at *
 generalize bat4 b = p4 at *
 generalize bat5 b = p5 at *
 generalize bat6 b = p6 at *
 generalize bat7 b = p7 at *
 have hm : maxInt = 9223372036854775807 := rfl
 have h1 := intS_le maxInt (0, b)
 rw [← q1, hm] at h1
 have h2 := intS_le maxInt p1.2
 rw [← q2, hm] at h2
 have h3 : ∀ y ∈ p4.1, y < 18446744073709551616 := by rw [q4]; exact rdNums_lt _ _
 have h4 : ∀ p ∈ p7.1, p.1.length = 32 := by rw [q7]; exact rdLets_key _ _
 have g1 : -9223372036854775808 ≤ (p1.1 : Int) ∧ (p1.1 : Int) ≤ 9223372036854775807 := by omega
 have g2 : -9223372036854775808 ≤ (p2.1 : Int) ∧ (p2.1 : Int) ≤ 9223372036854775807 := by omega
 exact ⟨g1, g2, h3, h4⟩
theorem batR_ok (b : List UInt8) : BatOk (batR b) := by
 unfold batR; split
 exact batS_ok b
 refine ⟨by decide, by decide, ?_, ?_⟩
 intro y hy; simp [zeroBat] at hy
 intro y hy; simp [zeroBat] at hy
theorem rdNums_app : ∀ (l : List Nat) (r : List UInt8), (∀ x ∈ l, x < 18446744073709551616) → rdNums l.length (0, putsL l ++ r) = (l, (0, r)) := by
 intro l
 induction l with
 | nil => intro r _; rfl
 | cons x l ih =>
   intro r h
   have h0 := h x (by simp)
   have h1 := ih r fun q hq => h q (by simp [hq])
   show rdNums (l.length + 1) (0, be64 x ++ putsL l ++ r) = _
   unfold rdNums
   rw [List.append_assoc, numS_be64 x h0]
   simp only [h1]
theorem rdNums_back : ∀ (n : Nat) (s : St), (rdNums n s).2.1 = 0 → s = (0, putsL (rdNums n s).1 ++ (rdNums n s).2.2) := by
 intro n
 induction n with
 | zero => intro s h; exact Prod.ext h rfl
 | succ n ih =>
   intro s h
   unfold rdNums at h ⊢
   have h : (rdNums n (numS s).2).2.1 = 0 := h
   have g1 := ih _ h
   have g2 := numS_back (s := s) (by rw [g1])
   have e1 := congrArg Prod.snd g1
   show s = (0, be64 (numS s).1 ++ putsL (rdNums n (numS s).2).1 ++ (rdNums n (numS s).2).2.2)
   rw [List.append_assoc]
   have e1 : (numS s).2.2 = putsL (rdNums n (numS s).2).1 ++ (rdNums n (numS s).2).2.2 := e1
   rw [← e1]
   exact g2
theorem rdLets_app {k : Nat} : ∀ (l : List Let) (r : List UInt8), (∀ p ∈ l, p.2.length = k ∧ p.1.length = 32) → rdLets k l.length (0, encLets l ++ r) = (l, (0, r)) := by
 intro l
 induction l with
 | nil => intro r _; rfl
 | cons p l ih =>
   intro r h
   obtain ⟨x, b⟩ := p
   have h0 := h (x, b) (by simp)
   have h1 := ih r fun q hq => h q (by simp [hq])
   show rdLets k (l.length + 1) (0, x ++ b ++ encLets l ++ r) = _
   unfold rdLets
   rw [if_pos rfl, List.append_assoc, List.append_assoc, keyS_app h0.2]
   simp only [takeS_app' h0.1, h1]
theorem rdLets_back {k : Nat} : ∀ (n : Nat) (s : St), (rdLets k n s).2.1 = 0 → s = (0, encLets (rdLets k n s).1 ++ (rdLets k n s).2.2) ∧ (rdLets k n s).1.length = n ∧ ∀ p ∈ (rdLets k n s).1, p.2.length = k := by
 intro n
 induction n with
 | zero => intro s h; exact ⟨Prod.ext h rfl, rfl, fun p hp => by cases hp⟩
 | succ n ih =>
   intro s h
   unfold rdLets at h ⊢
   by_cases hs : s.1 = 0
   rw [if_pos hs] at h ⊢
   have h : (rdLets k n (takeS k (keyS s).2).2).2.1 = 0 := h
   obtain ⟨g1, g2, g3⟩ := ih _ h
   have h4 : (takeS k (keyS s).2).2.1 = 0 := by rw [g1]
   obtain ⟨g5, g6⟩ := takeS_back h4
   have h7 : (keyS s).2.1 = 0 := by rw [g5]
   have g11 := keyS_back h7
   refine ⟨?_, by simp [g2], ?_⟩
   show s = (0, (keyS s).1 ++ (takeS k (keyS s).2).1 ++ encLets (rdLets k n (takeS k (keyS s).2).2).1 ++ (rdLets k n (takeS k (keyS s).2).2).2.2)
   have e1 : (takeS k (keyS s).2).2.2 = encLets (rdLets k n (takeS k (keyS s).2).2).1 ++ (rdLets k n (takeS k (keyS s).2).2).2.2 := congrArg Prod.snd g1
   have e2 : (keyS s).2.2 = (takeS k (keyS s).2).1 ++ (takeS k (keyS s).2).2.2 := congrArg Prod.snd g5
   rw [List.append_assoc, List.append_assoc, ← e1, ← e2]
   exact g11
   intro p hp
   rcases List.mem_cons.1 hp with rfl | hp
   exact g6
   exact g3 p hp
   rw [if_neg hs] at h; exact absurd h hs
theorem sizeL_all {k : Nat} {l : List Let} (h : ∀ p ∈ l, p.2.length = k) (hk : l = [] → k = 0) : sizeL l = k := by
 cases l with
 | nil => exact (hk rfl).symm
 | cons p r => exact h p (by simp)
theorem bat_read (x : BatD) (h : batE x = 0) (ho : BatOk x) : batRE (batB x) = 0 ∧ batR (batB x) = x := by
 have hB : batB x = _ := if_pos h
 unfold batE at h
 by_cases h1 : 20 < x.inner.length ∨ 1000 < x.lets.length ∨ longL x.lets
 rw [if_pos h1] at h; exact absurd h (by decide)
 rw [if_neg h1] at h
 by_cases h2 : x.round < 0 ∨ x.chain < 0 ∨ wrongL x.lets
 rw [if_pos h2] at h; exact absurd h (by decide)
 have hl : x.lets.length ≤ 1000 := by have := fun c => h1 (Or.inr (Or.inl c)); omega
 have hi : x.inner.length ≤ 20 := by have := fun c => h1 (Or.inl c); omega
 have hr : 0 ≤ x.round := by have := fun c => h2 (Or.inl c); omega
 have hc : 0 ≤ x.chain := by have := fun c => h2 (Or.inr (Or.inl c)); omega
 obtain ⟨o1, o2, o3, o4⟩ := ho
 have hall : ∀ p ∈ x.lets, p.2.length = sizeL x.lets ∧ p.1.length = 32 := fun p hp => by
   by_cases e : p.2.length = sizeL x.lets
   exact ⟨e, o4 p hp⟩
   exact absurd (Or.inr (Or.inr ⟨p, hp, e⟩)) h2
 have hsz : sizeL x.lets ≤ 1048576 := by
   cases hq : x.lets with
   | nil => exact Nat.zero_le _
   | cons p r => have : ¬ 1048576 < p.2.length := fun c => h1 (Or.inr (Or.inr ⟨p, by rw [hq]; simp, c⟩))
                 have e : sizeL (p :: r) = p.2.length := by obtain ⟨x, b⟩ := p; rfl
                 omega
 obtain ⟨r6, hr6⟩ : ∃ r, r = encLets x.lets := ⟨_, rfl⟩
 rw [← hr6] at hB
 obtain ⟨r5, hr5⟩ : ∃ r, r = be64 (sizeL x.lets) ++ r6 := ⟨_, rfl⟩
 rw [← hr5] at hB
 obtain ⟨r4, hr4⟩ : ∃ r, r = be64 x.lets.length ++ r5 := ⟨_, rfl⟩
 rw [← hr4] at hB
 obtain ⟨r3, hr3⟩ : ∃ r, r = putsL x.inner ++ r4 := ⟨_, rfl⟩
 rw [← hr3] at hB
 obtain ⟨r2, hr2⟩ : ∃ r, r = be64 x.inner.length ++ r3 := ⟨_, rfl⟩
 rw [← hr2] at hB
 obtain ⟨r1, hr1⟩ : ∃ r, r = be64 x.chain.toNat ++ r2 := ⟨_, rfl⟩
 rw [← hr1] at hB
 have hm : maxInt = 9223372036854775807 := rfl
 have e1 : bat1 (batB x) = (x.round.toNat, (0, r1)) := by rw [bat1_eq, hB]; exact intS_be64 (by omega) (by omega) _
 have e2 : bat2 (batB x) = (x.chain.toNat, (0, r2)) := by rw [bat2_eq, e1, hr1]; exact intS_be64 (by omega) (by omega) _
 have e3 : bat3 (batB x) = (x.inner.length, (0, r3)) := by rw [bat3_eq, e2, hr2]; exact intS_be64 (by omega) hi _
 have e4 : bat4 (batB x) = (x.inner, (0, r4)) := by rw [bat4_eq, e3, hr3]; exact rdNums_app _ _ o3
 have e5 : bat5 (batB x) = (x.lets.length, (0, r5)) := by rw [bat5_eq, e4, hr4]; exact intS_be64 (by omega) hl _
 have e6 : bat6 (batB x) = (sizeL x.lets, (0, r6)) := by rw [bat6_eq, e5, hr5]; exact sizeS_be64 hsz (by intro e; rw [List.eq_nil_of_length_eq_zero e]; rfl) _
 have e7 : bat7 (batB x) = (x.lets, (0, [])) := by
   rw [bat7_eq, e6, e5, hr6]
   have := rdLets_app (k := sizeL x.lets) x.lets [] hall
   rwa [List.append_nil] at this
 have hE : batRE (batB x) = 0 := by unfold batRE; rw [e7]; rfl
 refine ⟨hE, ?_⟩
 unfold batR
 rw [if_pos hE]
 unfold batS
 rw [e1, e2, e4, e7]
 simp only [Int.toNat_of_nonneg hr, Int.toNat_of_nonneg hc]
theorem bat_again (b : List UInt8) (h : batRE b = 0) : batE (batR b) = 0 ∧ batB (batR b) = b := by
 have hR : batR b = batS b := if_pos h
 have h : overS (bat7 b).2 = 0 := h
 rw [hR]
 clear hR
 unfold batS
 have q1 := bat1_eq b
 have q2 := bat2_eq b
 have q3 := bat3_eq b
 have q4 := bat4_eq b
 have q5 := bat5_eq b
 have q6 := bat6_eq b
 have q7 := bat7_eq b
 generalize bat1 b = p1 at *
 generalize bat2 b = p2 at *
 generalize bat3 b = p3 at *
 generalize bat4 b = p4 at *
 generalize bat5 b = p5 at *
 generalize bat6 b = p6 at *
 generalize bat7 b = p7 at *
 have h7 : p7.2 = (0, []) := overS_ok h
 obtain ⟨g7, l7, a7⟩ := rdLets_back (k := p6.1) p5.1 p6.2 (by rw [← q7, h7])
 rw [← q7] at g7 l7 a7
 obtain ⟨z1, z2, z3⟩ := sizeS_ok (n := p5.1) (s := p5.2) (by rw [← q6, g7])
 obtain ⟨y1, y2, y3⟩ := intS_ok z1
 have g6 := numS_back y1
 rw [← y2, ← z2, ← q6] at g6
 obtain ⟨x1, x2, x3⟩ := intS_ok (m := 1000) (s := p4.2) (by rw [← q5, g6])
 have g5 := numS_back x1
 rw [← x2, ← q5] at g5
 have g4 := rdNums_back p3.1 p3.2 (by rw [← q4, g5])
 rw [← q4] at g4
 have l4 : p4.1.length = p3.1 := by rw [q4]; exact rdNums_len _ _
 obtain ⟨w1, w2, w3⟩ := intS_ok (m := 20) (s := p2.2) (by rw [← q3, g4])
 have g3 := numS_back w1
 rw [← w2, ← q3] at g3
 obtain ⟨v1, v2, v3⟩ := intS_ok (m := maxInt) (s := p1.2) (by rw [← q2, g3])
 have g2 := numS_back v1
 rw [← v2, ← q2] at g2
 obtain ⟨u1, u2, u3⟩ := intS_ok (m := maxInt) (s := (0, b)) (by rw [← q1, g2])
 have g1 := numS_back u1
 rw [← u2, ← q1] at g1
 have b5 : p5.1 ≤ 1000 := by rw [q5]; exact intS_le _ _
 have b3 : p3.1 ≤ 20 := by rw [q3]; exact intS_le _ _
 have b6 : p6.1 ≤ 1048576 := by rw [q6, z2]; exact intS_le _ _
 have hz : sizeL p7.1 = p6.1 := sizeL_all a7 (fun e => by
   rw [q6, z2]
   exact z3 (by rw [← l7, e]; rfl))
 have hE : batE ⟨(p1.1 : Int), (p2.1 : Int), p4.1, p7.1⟩ = 0 := by
   unfold batE
   rw [if_neg, if_neg]
   rintro (hq | hq | ⟨p, hp, hq⟩)
   have hq : (p1.1 : Int) < 0 := hq
   omega
   have hq : (p2.1 : Int) < 0 := hq
   omega
   exact hq ((a7 p hp).trans hz.symm)
   rintro (hq | hq | ⟨p, hp, hq⟩)
   have hq : 20 < p4.1.length := hq
   omega
   have hq : 1000 < p7.1.length := hq
   omega
   have := a7 p hp; omega
 refine ⟨hE, ?_⟩
 unfold batB
 rw [if_pos hE]
 show be64 (p1.1 : Int).toNat ++ (be64 (p2.1 : Int).toNat ++ (be64 p4.1.length ++ (putsL p4.1 ++ (be64 p7.1.length ++ (be64 (sizeL p7.1) ++ encLets p7.1))))) = b
 rw [Int.toNat_natCast, Int.toNat_natCast, hz, l7, l4]
 have e6 : p6.2.2 = encLets p7.1 := by rw [g7, h7]; simp
 have e5 : p5.2.2 = be64 p6.1 ++ encLets p7.1 := by rw [g6]; simp only; rw [e6]
 have e4 : p4.2.2 = be64 p5.1 ++ (be64 p6.1 ++ encLets p7.1) := by rw [g5]; simp only; rw [e5]
 have e3 : p3.2.2 = putsL p4.1 ++ (be64 p5.1 ++ (be64 p6.1 ++ encLets p7.1)) := by rw [g4]; simp only; rw [e4]
 have e2 : p2.2.2 = be64 p3.1 ++ (putsL p4.1 ++ (be64 p5.1 ++ (be64 p6.1 ++ encLets p7.1))) := by rw [g3]; simp only; rw [e3]
 have e1 : p1.2.2 = be64 p2.1 ++ (be64 p3.1 ++ (putsL p4.1 ++ (be64 p5.1 ++ (be64 p6.1 ++ encLets p7.1)))) := by rw [g2]; simp only; rw [e2]
 rw [← e1]
 exact (congrArg Prod.snd g1).symm
end Go.Proofs.YthiijdbiikljpaaGreat.Cod
namespace Go.Proofs.YthiijdbiikljpaaGreat.Sha
open Go Go.RowKit Go.Proofs.YthiijdbiikljpaaGreat.KW Go.Proofs.YthiijdbiikljpaaGreat.Words
set_option linter.unusedVariables false
set_option linter.unusedSimpArgs false
set_option maxRecDepth 100000
def M32 : Nat := 4294967296
def shaK : List Nat := [0x428a2f98, 0x71374491, 0xb5c0fbcf, 0xe9b5dba5, 0x3956c25b, 0x59f111f1, 0x923f82a4, 0xab1c5ed5,
  0xd807aa98, 0x12835b01, 0x243185be, 0x550c7dc3, 0x72be5d74, 0x80deb1fe, 0x9bdc06a7, 0xc19bf174,
  0xe49b69c1, 0xefbe4786, 0x0fc19dc6, 0x240ca1cc, 0x2de92c6f, 0x4a7484aa, 0x5cb0a9dc, 0x76f988da,
  0x983e5152, 0xa831c66d, 0xb00327c8, 0xbf597fc7, 0xc6e00bf3, 0xd5a79147, 0x06ca6351, 0x14292967,
  0x27b70a85, 0x2e1b2138, 0x4d2c6dfc, 0x53380d13, 0x650a7354, 0x766a0abb, 0x81c2c92e, 0x92722c85,
  0xa2bfe8a1, 0xa81a664b, 0xc24b8b70, 0xc76c51a3, 0xd192e819, 0xd6990624, 0xf40e3585, 0x106aa070,
  0x19a4c116, 0x1e376c08, 0x2748774c, 0x34b0bcb5, 0x391c0cb3, 0x4ed8aa4a, 0x5b9cca4f, 0x682e6ff3,
  0x748f82ee, 0x78a5636f, 0x84c87814, 0x8cc70208, 0x90befffa, 0xa4506ceb, 0xbef9a3f7, 0xc67178f2]
def shaH : List Nat := [0x6a09e667, 0xbb67ae85, 0x3c6ef372, 0xa54ff53a, 0x510e527f, 0x9b05688c, 0x1f83d9ab, 0x5be0cd19]
def nextW (p x b y : Nat) : Nat :=
  addM 4294967296 (addM 4294967296 (addM 4294967296 p (xorM 4294967296 (xorM 4294967296 (rotV x 7) (rotV x 18)) (shrM 32 x 3))) b) (xorM 4294967296 (xorM 4294967296 (rotV y 17) (rotV y 19)) (shrM 32 y 10))
def sch (ws : List Nat) : Nat → List Nat
  | 0 => []
  | i + 1 => sch ws i ++ [if i < 16 then ws.getD i 0 else nextW ((sch ws i).getD (i - 16) 0) ((sch ws i).getD (i - 15) 0) ((sch ws i).getD (i - 7) 0) ((sch ws i).getD (i - 2) 0)]
theorem sch_length (ws : List Nat) : ∀ i, (sch ws i).length = i := by
 intro i
 induction i with
 | zero => rfl
 | succ i ih => rw [sch, List.length_append, ih]; rfl
def oneV (e f g h k : Nat) : Nat :=
  addM 4294967296 (addM 4294967296 (addM 4294967296 h (xorM 4294967296 (xorM 4294967296 (rotV e 6) (rotV e 11)) (rotV e 25))) (xorM 4294967296 (landM 4294967296 e f) (landM 4294967296 (notM 4294967296 e) g))) k
def twoV (a b c : Nat) : Nat :=
  addM 4294967296 (xorM 4294967296 (xorM 4294967296 (rotV a 2) (rotV a 13)) (rotV a 22)) (xorM 4294967296 (xorM 4294967296 (landM 4294967296 a b) (landM 4294967296 a c)) (landM 4294967296 b c))
def stepL : List Nat → Nat → List Nat
  | [a, b, c, d, e, f, g, h], k => [addM 4294967296 (oneV e f g h k) (twoV a b c), a, b, c, addM 4294967296 d (oneV e f g h k), e, f, g]
  | l, _ => l
def rnd (hs ks ws : List Nat) : Nat → List Nat
  | 0 => hs
  | i + 1 => stepL (rnd hs ks ws i) (addM 4294967296 (ks.getD i 0) (ws.getD i 0))
def addL : List Nat → List Nat → List Nat
  | a :: r, b :: q => addM 4294967296 a b :: addL r q
  | _, _ => []
def mixV (hs ks ws : List Nat) : List Nat := addL hs (rnd hs ks ws 64)
def wordsOf (b : List UInt8) : List Nat := (List.range 16).map fun j => getV b ((4 * j : Nat) : Int) 4
theorem eight {l : List Nat} (h : l.length = 8) : ∃ a b c d e f g i, l = [a, b, c, d, e, f, g, i] := by
 match l, h with
 | [a, b, c, d, e, f, g, i], _ => exact ⟨a, b, c, d, e, f, g, i, rfl⟩
theorem stepL_length {l : List Nat} (h : l.length = 8) (k : Nat) : (stepL l k).length = 8 := by
 obtain ⟨a, b, c, d, e, f, g, i, rfl⟩ := eight h
 rfl
theorem rnd_length {hs : List Nat} (h : hs.length = 8) (ks ws : List Nat) : ∀ i, (rnd hs ks ws i).length = 8 := by
 intro i
 induction i with
 | zero => exact h
 | succ i ih => exact stepL_length ih _
theorem addL_length : ∀ (x y : List Nat), x.length = y.length → (addL x y).length = x.length := by
 intro x
 induction x with
 | nil => intro y h; rfl
 | cons a r ih =>
   intro y h
   cases y with
   | nil => simp at h
   | cons b q => simp only [addL, List.length_cons, ih q (by simpa using h)]
theorem mixV_length {hs : List Nat} (h : hs.length = 8) (ks ws : List Nat) : (mixV hs ks ws).length = 8 := by
 unfold mixV; rw [addL_length _ _ (by rw [h, rnd_length h]), h]
theorem wordsOf_length (b : List UInt8) : (wordsOf b).length = 16 := by simp [wordsOf]
def part64 (l : List Nat) : List Value := l.map u32V ++ List.replicate (64 - l.length) (u32V 0)
theorem part64_length {l : List Nat} (h : l.length ≤ 64) : (part64 l).length = 64 := by simp [part64]; omega
theorem part64_get {l : List Nat} {j : Nat} (h : j < l.length) : (part64 l)[j]? = some (.int .u32 ((l.getD j 0 : Nat) : Int)) := by
 rw [part64, List.getElem?_append_left (by simpa using h), List.getElem?_map, List.getElem?_eq_getElem h]
 simp [List.getD, h, u32V]
theorem part64_set {l : List Nat} (h : l.length < 64) (v : Nat) : (part64 l).set l.length (u32V v) = part64 (l ++ [v]) := by
 unfold part64
 rw [List.set_append_right _ _ (by simp), List.length_map, Nat.sub_self, List.map_append, List.append_assoc]
 congr 1
 rw [show 64 - l.length = (64 - (l ++ [v]).length) + 1 by simp; omega, List.replicate_succ]
 rfl
theorem part64_full {l : List Nat} (h : l.length = 64) : part64 l = l.map u32V := by simp [part64, h]
theorem map_get {l : List Nat} {j : Nat} (h : j < l.length) : (l.map u32V)[j]? = some (.int .u32 ((l.getD j 0 : Nat) : Int)) := by
 rw [List.getElem?_map, List.getElem?_eq_getElem h]
 simp [List.getD, h, u32V]
theorem first_ok (w : World) : Ct Tryz.prog 89 #[] w (fun v w' => v = .agg (shaH.map u32V).toArray ∧ Ext w w') := by
 refine Ct.enter [] Tryz.func89 rfl rfl rfl rfl ?_
 refine C.seq (C.region ?_)
 refine W.alloc (z := .agg (List.replicate 8 (u32V 0)).toArray) (List.replicate 8 (u32V 0)) (by kernel_rfl) rfl rfl ?_
 intro g0 w0 hg0 hX0 hB0
 refine W.nil (At.thenCode (C.seq (C.region ?_)))
 refine W.buildA (shaH.map u32V) (List.replicate 8 (u32V 0)) X32 Tryz.underlying140 (by kernel_rfl) rfl rfl (u32_oneCell _) rfl rfl ?_
 refine W.storeA (shaH.map u32V) rfl rfl hB0 rfl (by kernel_rfl) (u32_oneCell _) ?_
 intro w1 hc1 hB1
 refine W.nil (At.thenCode (C.ret ?_))
 -- RESULT IN A CELL
 refine At.retC Tryz.results89 rfl (hB1.cells (o := 0)) Tryz.underlying140 rfl (by kernel_rfl) ⟨rfl, ?_⟩
 exact hX0.news hc1 (fun k hk => Or.inr (by omega))
theorem numbers_ok (w : World) : Ct Tryz.prog 90 #[] w (fun v w' => v = .agg (shaK.map u32V).toArray ∧ Ext w w') := by
 refine Ct.enter [] Tryz.func90 rfl rfl rfl rfl ?_
 refine C.seq (C.region ?_)
 refine W.alloc (z := .agg (List.replicate 64 (u32V 0)).toArray) (List.replicate 64 (u32V 0)) (by kernel_rfl) rfl rfl ?_
 intro g0 w0 hg0 hX0 hB0
 refine W.nil (At.thenCode (C.seq (C.region ?_)))
 refine W.buildA (shaK.map u32V) (List.replicate 64 (u32V 0)) X32 Tryz.underlying142 (by kernel_rfl) rfl rfl (u32_oneCell _) rfl rfl ?_
 refine W.storeA (shaK.map u32V) rfl rfl hB0 rfl (by kernel_rfl) (u32_oneCell _) ?_
 intro w1 hc1 hB1
 refine W.nil (At.thenCode (C.ret ?_))
 -- RESULT IN A CELL
 refine At.retC Tryz.results90 rfl (hB1.cells (o := 0)) Tryz.underlying142 rfl (by kernel_rfl) ⟨rfl, ?_⟩
 exact hX0.news hc1 (fun k hk => Or.inr (by omega))
theorem wordsOf_get (b : List UInt8) {i : Nat} (h : i < 16) : (wordsOf b).getD i 0 = getV b ((4 * i : Nat) : Int) 4 := by
 simp [wordsOf, List.getD, h]
theorem sch_low (ws : List Nat) {i : Nat} (h : i < 16) : sch ws (i + 1) = sch ws i ++ [ws.getD i 0] := by rw [sch, if_pos h]
theorem sch_high (ws : List Nat) {i : Nat} (h : ¬ i < 16) : sch ws (i + 1) = sch ws i ++ [nextW ((sch ws i).getD (i - 16) 0) ((sch ws i).getD (i - 15) 0) ((sch ws i).getD (i - 7) 0) ((sch ws i).getD (i - 2) 0)] := by rw [sch, if_neg h]
theorem schedule_ok (ao : Option Addr) (c : Nat) (xs : List UInt8) (w : World) (hS : Bs w ao c xs) (hl : xs.length ≤ 1099511627776) :
   Ct Tryz.prog 108 #[.slice ao xs.length c] w (fun v w' => v = .agg ((sch (wordsOf xs) 64).map u32V).toArray ∧ Ext w w') := by
 refine Ct.enter [(0, .slice ao xs.length c)] Tryz.func108 rfl rfl rfl rfl ?_
 obtain ⟨U, hW⟩ : ∃ U, U = wordsOf xs := ⟨_, rfl⟩
 rw [← hW]
 refine C.seq (C.region ?_)
 refine W.alloc (z := .agg (List.replicate 64 (u32V 0)).toArray) (List.replicate 64 (u32V 0)) (by kernel_rfl) rfl rfl ?_
 intro g2 w2 hg2 hX2 hB2
 refine W.nil (At.thenCode (C.seq (C.region ?_)))
 refine W.alloc (z := .agg (List.replicate 64 (u32V 0)).toArray) (List.replicate 64 (u32V 0)) (by kernel_rfl) rfl rfl ?_
 intro g3 w3 hg3 hX3 hB3
 have hs2 := hX2.size
 have hl2 := hB2.lt
 have hne : g2 ≠ g3 := by omega
 refine W.nil (At.thenCode (C.seq (C.seq (C.region (W.move rfl rfl (W.nil (At.thenCode (C.block ?_))))))))
 refine C.loop (X := Nat) (fun x_ => [(0, .slice ao xs.length c), (2, .pointer (some ⟨g2, 0, none⟩)), (3, .pointer (some ⟨g3, 0, none⟩)), (9, .int .i64 (x_ : Int))]) (fun x_ w1 => Ext w w1 ∧ x_ ≤ 64 ∧ Bk w1 g2 (List.replicate 64 (u32V 0)) ∧ Bk w1 g3 (part64 (sch U x_))) (fun x_ => 64 - x_) (0) (sc rfl (sc rfl (sc rfl (sc rfl (Sub.nil))))) ?start1 ?_
 case start1 =>
   show Ext w _ ∧ (0) ≤ 64 ∧ Bk _ g2 (List.replicate 64 (u32V 0)) ∧ Bk _ g3 (part64 (sch U (0)))
   exact ⟨hX2.ext hX3, by omega, hB2.ext hX3, hB3⟩
 rintro i w1 hI_
 replace hI_ : Ext w w1 ∧ i ≤ 64 ∧ Bk w1 g2 (List.replicate 64 (u32V 0)) ∧ Bk w1 g3 (part64 (sch U i)) := hI_
 obtain ⟨hX1, hi, hB2, hB3⟩ := hI_
 refine C.weaken (l' := [(0, .slice ao xs.length c), (2, .pointer (some ⟨g2, 0, none⟩)), (3, .pointer (some ⟨g3, 0, none⟩)), (9, .int .i64 (i : Int))]) (sc rfl (sc rfl (sc rfl (sc rfl (Sub.nil))))) ?_
 refine C.seq (C.region (W.lssI rfl rfl rfl (W.nil (At.thenCode (C.seq ?_)))))
 refine C.condD rfl (fun c10 => ?_) (fun c10 => ?_)
 have hlen := sch_length U i
 refine C.skip (At.thenCode (C.seq (C.block (C.seq (C.region (W.move rfl rfl (W.assign rfl rfl (W.nil (At.thenCode (C.seq (C.seq ?_)))))))))))
 refine C.region (W.move rfl rfl (W.lssI rfl rfl rfl (W.nil (At.thenCode ?_))))
 refine C.condD rfl (fun c13 => ?_) (fun c13 => ?_)
 refine C.seq (C.region (W.move rfl rfl (W.move rfl rfl (W.move rfl rfl ?_))))
 refine W.mulI rfl rfl (by omega) rfl ?_
 rw [show (4 : Int) * (i : Int) = ((4 * i : Nat) : Int) by omega]
 refine W.call Tryz.call55 rfl (Words.Get32_ok _ _ _ _ _ (hS.ext hX1) (by omega) (by omega)) rfl ?_
 rintro v w' ⟨rfl, rfl⟩
 rw [← wordsOf_get xs (by omega), ← hW]
 refine W.move rfl rfl (W.extract rfl rfl rfl (W.extract rfl rfl rfl ?_))
 refine W.indexA1 Words.X32 Tryz.underlying142 rfl rfl (by first | omega | decide) rfl ?_
 refine W.store1 rfl rfl rfl hB3 (by rw [part64_length (by omega)]; omega) (by kernel_rfl) ?_
 intro w9 hc9 hB9
 have hB9' : Bk w9 g3 (part64 (sch U (i + 1))) := by
   have := part64_set (l := sch U i) (by omega) (U.getD i 0)
   rw [hlen] at this
   rw [sch_low U (by omega), ← this]
   exact hB9
 refine W.nil (At.thenCode (C.exit (At.thenExit (At.blockSelf (At.thenCode (C.region ?_))))))
 refine W.addI rfl rfl (by omega) rfl ?_
 refine W.move rfl rfl (W.nil ?_)
 refine At.thenRound (i + 1) (sc rfl (sc rfl (sc rfl (sc (look_eq rfl (by rw [show (i : Int) + 1 = ((i + 1 : Nat) : Int) by omega])) (Sub.nil))))) (show Ext w _ ∧ (i + 1) ≤ 64 ∧ Bk _ g2 (List.replicate 64 (u32V 0)) ∧ Bk _ g3 (part64 (sch U (i + 1))) from ?_) (show 64 - (i + 1) < 64 - i from ?_)
 exact ⟨hX1.news hc9 (fun k hk => Or.inr (by omega)), by omega, hB2.chg hc9 (by omega), hB9'⟩
 omega
 refine C.skip (At.thenCode (C.seq ?_))
 refine C.regionAny 10 (E_ (.int .i64 (i : Int)) :: E_ (.int .i64 ((i - 15 : Nat) : Int)) :: E_ (.pointer (some ⟨g3, (i - 15 : Nat), none⟩)) :: E_ (.int .u32 (((sch U i).getD (i - 15) 0 : Nat) : Int)) :: E_ (.int .i64 (i : Int)) :: E_ (.int .i64 ((i - 2 : Nat) : Int)) :: E_ (.pointer (some ⟨g3, (i - 2 : Nat), none⟩)) :: E_ (.int .u32 (((sch U i).getD (i - 2) 0 : Nat) : Int)) :: E_ (.int .u32 (((sch U i).getD (i - 15) 0 : Nat) : Int)) :: E_ (.int .u32 (((sch U i).getD (i - 2) 0 : Nat) : Int)) :: []) [(0, .slice ao xs.length c), (2, .pointer (some ⟨g2, 0, none⟩)), (3, .pointer (some ⟨g3, 0, none⟩)), (4, .int .i64 (i : Int)), (9, .int .i64 (i : Int))] [] (sc rfl (sc rfl (sc rfl (sc rfl (sc rfl (Sub.nil)))))) (Sub.nil) (sc rfl (sc rfl (sc rfl (sc rfl (sc rfl (Sub.nil)))))) (by kernel_rfl) rfl rfl rfl (sN (sN (sN (sN (sN (sN (sN (sN (sN (sN (trivial))))))))))) ?_ ?_
 refine And.intro (mB rfl rfl (fun _ => rfl) rfl) ?_
 refine And.intro ?_ ?_
 intro L_ w7 hX_ hs_ hf_ hd_
 obtain ⟨_, e0, rfl⟩ := hd_ 0 rfl
 refine W.s1 (e0 _ rfl) ?_
 refine W.subI rfl rfl (by omega) rfl ?_
 rw [show (i : Int) - 15 = ((i - 15 : Nat) : Int) by omega]
 exact W.e0 rfl
 refine And.intro ?_ ?_
 intro L_ w7 hX_ hs_ hf_ hd_
 obtain ⟨_, e1, rfl⟩ := hd_ 1 rfl
 refine W.s2 (hs_ 3 _ rfl) (e1 _ rfl) ?_
 refine W.indexA1 Words.X32 Tryz.underlying142 rfl rfl (by first | omega | decide) rfl ?_
 exact W.e0 rfl
 refine And.intro ?_ ?_
 intro L_ w7 hX_ hs_ hf_ hd_
 obtain ⟨_, e2, rfl⟩ := hd_ 2 rfl
 refine W.s1 (e2 _ rfl) ?_
 refine W.loadB rfl Tryz.underlying101 rfl (hB3.ext hX_) (part64_get (by omega)) rfl ?_
 exact W.e0 rfl
 refine And.intro (mB rfl rfl (fun _ => rfl) rfl) ?_
 refine And.intro ?_ ?_
 intro L_ w7 hX_ hs_ hf_ hd_
 obtain ⟨_, e4, rfl⟩ := hd_ 4 rfl
 refine W.s1 (e4 _ rfl) ?_
 refine W.subI rfl rfl (by omega) rfl ?_
 rw [show (i : Int) - 2 = ((i - 2 : Nat) : Int) by omega]
 exact W.e0 rfl
 refine And.intro ?_ ?_
 intro L_ w7 hX_ hs_ hf_ hd_
 obtain ⟨_, e5, rfl⟩ := hd_ 5 rfl
 refine W.s2 (hs_ 3 _ rfl) (e5 _ rfl) ?_
 refine W.indexA1 Words.X32 Tryz.underlying142 rfl rfl (by first | omega | decide) rfl ?_
 exact W.e0 rfl
 refine And.intro ?_ ?_
 intro L_ w7 hX_ hs_ hf_ hd_
 obtain ⟨_, e6, rfl⟩ := hd_ 6 rfl
 refine W.s1 (e6 _ rfl) ?_
 refine W.loadB rfl Tryz.underlying101 rfl (hB3.ext hX_) (part64_get (by omega)) rfl ?_
 exact W.e0 rfl
 refine And.intro ?_ ?_
 intro L_ w7 hX_ hs_ hf_ hd_
 obtain ⟨_, e3, rfl⟩ := hd_ 3 rfl
 exact W.s1 (e3 _ rfl) (W.assign rfl rfl (W.e0 rfl))
 refine And.intro ?_ ?_
 intro L_ w7 hX_ hs_ hf_ hd_
 obtain ⟨_, e7, rfl⟩ := hd_ 7 rfl
 exact W.s1 (e7 _ rfl) (W.assign rfl rfl (W.e0 rfl))
 exact trivial
 intro L_ w7 hX7 hs_ hv_
 obtain ⟨_, e8, rfl⟩ := hv_ 8 (by decide)
 obtain ⟨_, e9, rfl⟩ := hv_ 9 (by decide)
 refine W.weaken (l' := [(5, _), (6, _), (0, _), (2, _), (3, _), (4, _), (9, _)]) (sc (e8 _ rfl) (sc (e9 _ rfl) (sc (hs_ _ _ rfl) (sc (hs_ _ _ rfl) (sc (hs_ _ _ rfl) (sc (hs_ _ _ rfl) (sc (hs_ _ _ rfl) (Sub.nil)))))))) ?_
 refine W.nil (At.thenCode (C.seq (C.region ?_)))
 have hB3 := hB3.ext hX7
 have hB2 := hB2.ext hX7
 have hX1 := hX1.ext hX7
 refine W.move rfl rfl ?_
 refine W.call Tryz.call116 rfl (Words.Rot_ok _ _ _) rfl ?_
 rintro v w' ⟨rfl, rfl⟩
 refine W.move rfl rfl ?_
 refine W.call Tryz.call116 rfl (Words.Rot_ok _ _ _) rfl ?_
 rintro v w' ⟨rfl, rfl⟩
 refine W.xorU (M := 4294967296) rfl rfl rfl rfl rfl ?_
 refine W.move rfl rfl ?_
 refine W.shrU (B := 32) (s := 3) rfl rfl rfl rfl ?_
 refine W.xorU (M := 4294967296) rfl rfl rfl rfl rfl ?_
 refine W.assign rfl rfl (W.nil (At.thenCode (C.seq (C.region (W.move rfl rfl ?_)))))
 refine W.call Tryz.call116 rfl (Words.Rot_ok _ _ _) rfl ?_
 rintro v w' ⟨rfl, rfl⟩
 refine W.move rfl rfl ?_
 refine W.call Tryz.call116 rfl (Words.Rot_ok _ _ _) rfl ?_
 rintro v w' ⟨rfl, rfl⟩
 refine W.xorU (M := 4294967296) rfl rfl rfl rfl rfl ?_
 refine W.move rfl rfl ?_
 refine W.shrU (B := 32) (s := 10) rfl rfl rfl rfl ?_
 refine W.xorU (M := 4294967296) rfl rfl rfl rfl rfl ?_
 refine W.assign rfl rfl (W.nil (At.thenCode ?_))
 refine C.regionAny 15 (E_ (.int .i64 (i : Int)) :: E_ (.int .i64 (i : Int)) :: E_ (.int .i64 ((i - 16 : Nat) : Int)) :: E_ (.pointer (some ⟨g3, (i - 16 : Nat), none⟩)) :: E_ (.int .u32 (((sch U i).getD (i - 16) 0 : Nat) : Int)) :: E_ (.int .u32 ((xorM 4294967296 (xorM 4294967296 (rotV ((sch U i).getD (i - 15) 0) 7) (rotV ((sch U i).getD (i - 15) 0) 18)) (shrM 32 ((sch U i).getD (i - 15) 0) 3) : Nat) : Int)) :: E_ (.int .u32 ((addM 4294967296 ((sch U i).getD (i - 16) 0) (xorM 4294967296 (xorM 4294967296 (rotV ((sch U i).getD (i - 15) 0) 7) (rotV ((sch U i).getD (i - 15) 0) 18)) (shrM 32 ((sch U i).getD (i - 15) 0) 3)) : Nat) : Int)) :: E_ (.int .i64 (i : Int)) :: E_ (.int .i64 ((i - 7 : Nat) : Int)) :: E_ (.pointer (some ⟨g3, (i - 7 : Nat), none⟩)) :: E_ (.int .u32 (((sch U i).getD (i - 7) 0 : Nat) : Int)) :: E_ (.int .u32 ((addM 4294967296 (addM 4294967296 ((sch U i).getD (i - 16) 0) (xorM 4294967296 (xorM 4294967296 (rotV ((sch U i).getD (i - 15) 0) 7) (rotV ((sch U i).getD (i - 15) 0) 18)) (shrM 32 ((sch U i).getD (i - 15) 0) 3))) ((sch U i).getD (i - 7) 0) : Nat) : Int)) :: E_ (.int .u32 ((xorM 4294967296 (xorM 4294967296 (rotV ((sch U i).getD (i - 2) 0) 17) (rotV ((sch U i).getD (i - 2) 0) 19)) (shrM 32 ((sch U i).getD (i - 2) 0) 10) : Nat) : Int)) :: E_ (.int .u32 ((nextW ((sch U i).getD (i - 16) 0) ((sch U i).getD (i - 15) 0) ((sch U i).getD (i - 7) 0) ((sch U i).getD (i - 2) 0) : Nat) : Int)) :: E_ (.pointer (some ⟨g3, i, none⟩)) :: []) [(0, .slice ao xs.length c), (2, .pointer (some ⟨g2, 0, none⟩)), (3, .pointer (some ⟨g3, 0, none⟩)), (4, .int .i64 (i : Int)), (9, .int .i64 (i : Int)), (7, .int .u32 ((xorM 4294967296 (xorM 4294967296 (rotV ((sch U i).getD (i - 15) 0) 7) (rotV ((sch U i).getD (i - 15) 0) 18)) (shrM 32 ((sch U i).getD (i - 15) 0) 3) : Nat) : Int)), (8, .int .u32 ((xorM 4294967296 (xorM 4294967296 (rotV ((sch U i).getD (i - 2) 0) 17) (rotV ((sch U i).getD (i - 2) 0) 19)) (shrM 32 ((sch U i).getD (i - 2) 0) 10) : Nat) : Int))] [] (sc rfl (sc rfl (sc rfl (sc rfl (sc rfl (sc rfl (sc rfl (Sub.nil)))))))) (Sub.nil) (sc rfl (sc rfl (sc rfl (sc rfl (sc rfl (sc rfl (sc rfl (Sub.nil)))))))) (by kernel_rfl) rfl rfl rfl (sN (sN (sN (sN (sN (sN (sN (sN (sN (sN (sN (sN (sN (sN (sN (trivial)))))))))))))))) ?_ ?_
 refine And.intro (mB rfl rfl (fun _ => rfl) rfl) ?_
 refine And.intro (mB rfl rfl (fun _ => rfl) rfl) ?_
 refine And.intro ?_ ?_
 intro L_ w10 hX_ hs_ hf_ hd_
 obtain ⟨_, e1, rfl⟩ := hd_ 1 rfl
 refine W.s1 (e1 _ rfl) ?_
 refine W.subI rfl rfl (by omega) rfl ?_
 rw [show (i : Int) - 16 = ((i - 16 : Nat) : Int) by omega]
 exact W.e0 rfl
 refine And.intro ?_ ?_
 intro L_ w10 hX_ hs_ hf_ hd_
 obtain ⟨_, e2, rfl⟩ := hd_ 2 rfl
 refine W.s2 (hs_ 3 _ rfl) (e2 _ rfl) ?_
 refine W.indexA1 Words.X32 Tryz.underlying142 rfl rfl (by first | omega | decide) rfl ?_
 exact W.e0 rfl
 refine And.intro ?_ ?_
 intro L_ w10 hX_ hs_ hf_ hd_
 obtain ⟨_, e3, rfl⟩ := hd_ 3 rfl
 refine W.s1 (e3 _ rfl) ?_
 refine W.loadB rfl Tryz.underlying101 rfl (hB3.ext hX_) (part64_get (by omega)) rfl ?_
 exact W.e0 rfl
 refine And.intro (mB rfl rfl (fun _ => rfl) rfl) ?_
 refine And.intro ?_ ?_
 intro L_ w10 hX_ hs_ hf_ hd_
 obtain ⟨_, e4, rfl⟩ := hd_ 4 rfl
 obtain ⟨_, e5, rfl⟩ := hd_ 5 rfl
 refine W.s2 (e4 _ rfl) (e5 _ rfl) ?_
 refine W.addU (M := 4294967296) rfl rfl rfl rfl rfl ?_
 exact W.e0 rfl
 refine And.intro (mB rfl rfl (fun _ => rfl) rfl) ?_
 refine And.intro ?_ ?_
 intro L_ w10 hX_ hs_ hf_ hd_
 obtain ⟨_, e7, rfl⟩ := hd_ 7 rfl
 refine W.s1 (e7 _ rfl) ?_
 refine W.subI rfl rfl (by omega) rfl ?_
 rw [show (i : Int) - 7 = ((i - 7 : Nat) : Int) by omega]
 exact W.e0 rfl
 refine And.intro ?_ ?_
 intro L_ w10 hX_ hs_ hf_ hd_
 obtain ⟨_, e8, rfl⟩ := hd_ 8 rfl
 refine W.s2 (hs_ 3 _ rfl) (e8 _ rfl) ?_
 refine W.indexA1 Words.X32 Tryz.underlying142 rfl rfl (by first | omega | decide) rfl ?_
 exact W.e0 rfl
 refine And.intro ?_ ?_
 intro L_ w10 hX_ hs_ hf_ hd_
 obtain ⟨_, e9, rfl⟩ := hd_ 9 rfl
 refine W.s1 (e9 _ rfl) ?_
 refine W.loadB rfl Tryz.underlying101 rfl (hB3.ext hX_) (part64_get (by omega)) rfl ?_
 exact W.e0 rfl
 refine And.intro ?_ ?_
 intro L_ w10 hX_ hs_ hf_ hd_
 obtain ⟨_, e6, rfl⟩ := hd_ 6 rfl
 obtain ⟨_, e10, rfl⟩ := hd_ 10 rfl
 refine W.s2 (e6 _ rfl) (e10 _ rfl) ?_
 refine W.addU (M := 4294967296) rfl rfl rfl rfl rfl ?_
 exact W.e0 rfl
 refine And.intro (mB rfl rfl (fun _ => rfl) rfl) ?_
 refine And.intro ?_ ?_
 intro L_ w10 hX_ hs_ hf_ hd_
 obtain ⟨_, e11, rfl⟩ := hd_ 11 rfl
 obtain ⟨_, e12, rfl⟩ := hd_ 12 rfl
 refine W.s2 (e11 _ rfl) (e12 _ rfl) ?_
 refine W.addU (M := 4294967296) rfl rfl rfl rfl rfl ?_
 exact W.e0 rfl
 refine And.intro ?_ ?_
 intro L_ w10 hX_ hs_ hf_ hd_
 obtain ⟨_, e0, rfl⟩ := hd_ 0 rfl
 refine W.s2 (hs_ 3 _ rfl) (e0 _ rfl) ?_
 refine W.indexA1 Words.X32 Tryz.underlying142 rfl rfl (by first | omega | decide) rfl ?_
 exact W.e0 rfl
 exact trivial
 intro L_ w10 hX10 hs_ hv_
 obtain ⟨_, e14, rfl⟩ := hv_ 14 (by decide)
 obtain ⟨_, e13, rfl⟩ := hv_ 13 (by decide)
 refine W.weaken (l' := [(61, _), (60, _), (0, _), (2, _), (3, _), (4, _), (9, _), (7, _), (8, _)]) (sc (e14 _ rfl) (sc (e13 _ rfl) (sc (hs_ _ _ rfl) (sc (hs_ _ _ rfl) (sc (hs_ _ _ rfl) (sc (hs_ _ _ rfl) (sc (hs_ _ _ rfl) (sc (hs_ _ _ rfl) (sc (hs_ _ _ rfl) (Sub.nil)))))))))) ?_
 refine W.store1 rfl rfl rfl (hB3.ext hX10) (by rw [part64_length (by omega)]; omega) (by kernel_rfl) ?_
 intro w9 hc9 hB9
 have hB9' : Bk w9 g3 (part64 (sch U (i + 1))) := by
   have := part64_set (l := sch U i) (by omega) (nextW ((sch U i).getD (i - 16) 0) ((sch U i).getD (i - 15) 0) ((sch U i).getD (i - 7) 0) ((sch U i).getD (i - 2) 0))
   rw [hlen] at this
   rw [sch_high U (by omega), ← this]
   exact hB9
 refine W.nil (At.blockNormal (At.thenCode (C.region ?_)))
 refine W.addI rfl rfl (by omega) rfl ?_
 refine W.move rfl rfl (W.nil ?_)
 refine At.thenRound (i + 1) (sc rfl (sc rfl (sc rfl (sc (look_eq rfl (by rw [show (i : Int) + 1 = ((i + 1 : Nat) : Int) by omega])) (Sub.nil))))) (show Ext w _ ∧ (i + 1) ≤ 64 ∧ Bk _ g2 (List.replicate 64 (u32V 0)) ∧ Bk _ g3 (part64 (sch U (i + 1))) from ?_) (show 64 - (i + 1) < 64 - i from ?_)
 exact ⟨(hX1.ext hX10).news hc9 (fun k hk => Or.inr (by omega)), by omega, (hB2.ext hX10).chg hc9 (by omega), hB9'⟩
 omega
 refine C.exit (At.thenExit (At.thenExit (At.blockSelf (At.thenCode (C.seq (C.region ?_))))))
 obtain rfl : i = 64 := by omega
 rw [part64_full (sch_length U 64)] at hB3
 refine W.loadA rfl (hB3.cells (o := 0)) Tryz.underlying142 rfl (by rw [List.drop_zero, List.length_map, sch_length]; kernel_rfl) rfl ?_
 refine W.storeA ((sch U 64).map u32V) rfl rfl hB2 (by rw [List.length_map, sch_length]; rfl) (by rw [List.length_map, sch_length]; kernel_rfl) (u32_oneCell _) ?_
 intro wz hcz hBz
 refine W.nil (At.thenCode (C.ret ?_))
 -- RESULT IN A CELL
 refine At.retC Tryz.results108 rfl (hBz.cells (o := 0)) Tryz.underlying142 rfl (by rw [List.drop_zero, List.length_map, sch_length]; kernel_rfl) ⟨rfl, ?_⟩
 exact hX1.news hcz (fun k hk => Or.inr (by omega))
theorem step_ok (a b c d e f g h k : Nat) (w : World) :
   Ct Tryz.prog 109 #[.agg ([a, b, c, d, e, f, g, h].map u32V).toArray, .int .u32 (k : Int)] w (fun v w' => v = .agg ((stepL [a, b, c, d, e, f, g, h] k).map u32V).toArray ∧ Ext w w') := by
 refine Ct.enter [(0, .agg ([a, b, c, d, e, f, g, h].map u32V).toArray), (1, .int .u32 (k : Int))] Tryz.func109 rfl rfl rfl rfl ?_
 refine C.seq (C.region ?_)
 refine W.box ([a, b, c, d, e, f, g, h].map u32V) rfl rfl rfl ?_
 intro g2 w2 hg2 hX2 hB2
 refine W.alloc (z := .agg (List.replicate 8 (u32V 0)).toArray) (List.replicate 8 (u32V 0)) (by kernel_rfl) rfl rfl ?_
 intro g4 w4 hg4 hX4 hB4
 have hs2 := hX2.size
 have hl2 := hB2.lt
 have hne : g2 ≠ g4 := by omega
 have hB2 := hB2.ext hX4
 refine W.nil (At.thenCode (C.seq ?_))
 refine C.regionAny 18 (E_ (.pointer (some ⟨g2, 0, none⟩)) :: E_ (.int .u32 (a : Int)) :: E_ (.pointer (some ⟨g2, 1, none⟩)) :: E_ (.int .u32 (b : Int)) :: E_ (.pointer (some ⟨g2, 2, none⟩)) :: E_ (.int .u32 (c : Int)) :: E_ (.pointer (some ⟨g2, 4, none⟩)) :: E_ (.int .u32 (e : Int)) :: E_ (.pointer (some ⟨g2, 5, none⟩)) :: E_ (.int .u32 (f : Int)) :: E_ (.pointer (some ⟨g2, 6, none⟩)) :: E_ (.int .u32 (g : Int)) :: E_ (.int .u32 (a : Int)) :: E_ (.int .u32 (b : Int)) :: E_ (.int .u32 (c : Int)) :: E_ (.int .u32 (e : Int)) :: E_ (.int .u32 (f : Int)) :: E_ (.int .u32 (g : Int)) :: []) [(1, .int .u32 (k : Int)), (2, .pointer (some ⟨g2, 0, none⟩)), (4, .pointer (some ⟨g4, 0, none⟩))] [] (sc rfl (sc rfl (sc rfl (Sub.nil)))) (Sub.nil) (sc rfl (sc rfl (sc rfl (Sub.nil)))) (by kernel_rfl) rfl rfl rfl (sN (sN (sN (sN (sN (sN (sN (sN (sN (sN (sN (sN (sN (sN (sN (sN (sN (sN (trivial))))))))))))))))))) ?_ ?_
 refine And.intro ?_ ?_
 intro L_ w1 hX_ hs_ hf_ hd_
 refine W.s1 (hs_ 2 _ rfl) ?_
 refine W.indexA1 (j := 0) Words.X32 Tryz.underlying140 rfl rfl (by first | omega | decide) rfl ?_
 exact W.e0 rfl
 refine And.intro ?_ ?_
 intro L_ w1 hX_ hs_ hf_ hd_
 obtain ⟨_, e0, rfl⟩ := hd_ 0 rfl
 refine W.s1 (e0 _ rfl) ?_
 refine W.loadB rfl Tryz.underlying101 rfl (Bk.ext (by assumption) hX_) rfl rfl ?_
 exact W.e0 rfl
 refine And.intro ?_ ?_
 intro L_ w1 hX_ hs_ hf_ hd_
 refine W.s1 (hs_ 2 _ rfl) ?_
 refine W.indexA1 (j := 1) Words.X32 Tryz.underlying140 rfl rfl (by first | omega | decide) rfl ?_
 exact W.e0 rfl
 refine And.intro ?_ ?_
 intro L_ w1 hX_ hs_ hf_ hd_
 obtain ⟨_, e2, rfl⟩ := hd_ 2 rfl
 refine W.s1 (e2 _ rfl) ?_
 refine W.loadB rfl Tryz.underlying101 rfl (Bk.ext (by assumption) hX_) rfl rfl ?_
 exact W.e0 rfl
 refine And.intro ?_ ?_
 intro L_ w1 hX_ hs_ hf_ hd_
 refine W.s1 (hs_ 2 _ rfl) ?_
 refine W.indexA1 (j := 2) Words.X32 Tryz.underlying140 rfl rfl (by first | omega | decide) rfl ?_
 exact W.e0 rfl
 refine And.intro ?_ ?_
 intro L_ w1 hX_ hs_ hf_ hd_
 obtain ⟨_, e4, rfl⟩ := hd_ 4 rfl
 refine W.s1 (e4 _ rfl) ?_
 refine W.loadB rfl Tryz.underlying101 rfl (Bk.ext (by assumption) hX_) rfl rfl ?_
 exact W.e0 rfl
 refine And.intro ?_ ?_
 intro L_ w1 hX_ hs_ hf_ hd_
 refine W.s1 (hs_ 2 _ rfl) ?_
 refine W.indexA1 (j := 4) Words.X32 Tryz.underlying140 rfl rfl (by first | omega | decide) rfl ?_
 exact W.e0 rfl
 refine And.intro ?_ ?_
 intro L_ w1 hX_ hs_ hf_ hd_
 obtain ⟨_, e6, rfl⟩ := hd_ 6 rfl
 refine W.s1 (e6 _ rfl) ?_
 refine W.loadB rfl Tryz.underlying101 rfl (Bk.ext (by assumption) hX_) rfl rfl ?_
 exact W.e0 rfl
 refine And.intro ?_ ?_
 intro L_ w1 hX_ hs_ hf_ hd_
 refine W.s1 (hs_ 2 _ rfl) ?_
 refine W.indexA1 (j := 5) Words.X32 Tryz.underlying140 rfl rfl (by first | omega | decide) rfl ?_
 exact W.e0 rfl
 refine And.intro ?_ ?_
 intro L_ w1 hX_ hs_ hf_ hd_
 obtain ⟨_, e8, rfl⟩ := hd_ 8 rfl
 refine W.s1 (e8 _ rfl) ?_
 refine W.loadB rfl Tryz.underlying101 rfl (Bk.ext (by assumption) hX_) rfl rfl ?_
 exact W.e0 rfl
 refine And.intro ?_ ?_
 intro L_ w1 hX_ hs_ hf_ hd_
 refine W.s1 (hs_ 2 _ rfl) ?_
 refine W.indexA1 (j := 6) Words.X32 Tryz.underlying140 rfl rfl (by first | omega | decide) rfl ?_
 exact W.e0 rfl
 refine And.intro ?_ ?_
 intro L_ w1 hX_ hs_ hf_ hd_
 obtain ⟨_, e10, rfl⟩ := hd_ 10 rfl
 refine W.s1 (e10 _ rfl) ?_
 refine W.loadB rfl Tryz.underlying101 rfl (Bk.ext (by assumption) hX_) rfl rfl ?_
 exact W.e0 rfl
 refine And.intro ?_ ?_
 intro L_ w1 hX_ hs_ hf_ hd_
 obtain ⟨_, e1, rfl⟩ := hd_ 1 rfl
 exact W.s1 (e1 _ rfl) (W.assign rfl rfl (W.e0 rfl))
 refine And.intro ?_ ?_
 intro L_ w1 hX_ hs_ hf_ hd_
 obtain ⟨_, e3, rfl⟩ := hd_ 3 rfl
 exact W.s1 (e3 _ rfl) (W.assign rfl rfl (W.e0 rfl))
 refine And.intro ?_ ?_
 intro L_ w1 hX_ hs_ hf_ hd_
 obtain ⟨_, e5, rfl⟩ := hd_ 5 rfl
 exact W.s1 (e5 _ rfl) (W.assign rfl rfl (W.e0 rfl))
 refine And.intro ?_ ?_
 intro L_ w1 hX_ hs_ hf_ hd_
 obtain ⟨_, e7, rfl⟩ := hd_ 7 rfl
 exact W.s1 (e7 _ rfl) (W.assign rfl rfl (W.e0 rfl))
 refine And.intro ?_ ?_
 intro L_ w1 hX_ hs_ hf_ hd_
 obtain ⟨_, e9, rfl⟩ := hd_ 9 rfl
 exact W.s1 (e9 _ rfl) (W.assign rfl rfl (W.e0 rfl))
 refine And.intro ?_ ?_
 intro L_ w1 hX_ hs_ hf_ hd_
 obtain ⟨_, e11, rfl⟩ := hd_ 11 rfl
 exact W.s1 (e11 _ rfl) (W.assign rfl rfl (W.e0 rfl))
 exact trivial
 intro L_ w1 hX1 hs_ hv_
 obtain ⟨_, e12, rfl⟩ := hv_ 12 (by decide)
 obtain ⟨_, e13, rfl⟩ := hv_ 13 (by decide)
 obtain ⟨_, e14, rfl⟩ := hv_ 14 (by decide)
 obtain ⟨_, e15, rfl⟩ := hv_ 15 (by decide)
 obtain ⟨_, e16, rfl⟩ := hv_ 16 (by decide)
 obtain ⟨_, e17, rfl⟩ := hv_ 17 (by decide)
 refine W.weaken (l' := [(5, _), (6, _), (7, _), (8, _), (9, _), (10, _), (1, _), (2, _), (4, _)]) (sc (e12 _ rfl) (sc (e13 _ rfl) (sc (e14 _ rfl) (sc (e15 _ rfl) (sc (e16 _ rfl) (sc (e17 _ rfl) (sc (hs_ _ _ rfl) (sc (hs_ _ _ rfl) (sc (hs_ _ _ rfl) (Sub.nil)))))))))) ?_
 refine W.nil (At.thenCode (C.seq (C.region ?_)))
 have hB2 := hB2.ext hX1
 have hB4 := hB4.ext hX1
 refine W.move rfl rfl ?_
 refine W.call Tryz.call116 rfl (Words.Rot_ok _ _ _) rfl ?_
 rintro v w' ⟨rfl, rfl⟩
 refine W.move rfl rfl ?_
 refine W.call Tryz.call116 rfl (Words.Rot_ok _ _ _) rfl ?_
 rintro v w' ⟨rfl, rfl⟩
 refine W.xorU (M := 4294967296) rfl rfl rfl rfl rfl ?_
 refine W.move rfl rfl ?_
 refine W.call Tryz.call116 rfl (Words.Rot_ok _ _ _) rfl ?_
 rintro v w' ⟨rfl, rfl⟩
 refine W.xorU (M := 4294967296) rfl rfl rfl rfl rfl ?_
 refine W.assign rfl rfl (W.nil (At.thenCode (C.seq (C.region ?_))))
 refine W.indexA1 (j := 7) Words.X32 Tryz.underlying140 rfl rfl (by first | omega | decide) rfl ?_
 refine W.loadB rfl Tryz.underlying101 rfl (by assumption) rfl rfl ?_
 refine W.move rfl rfl ?_
 refine W.addU (M := 4294967296) rfl rfl rfl rfl rfl ?_
 refine W.move rfl rfl (W.move rfl rfl ?_)
 refine W.andU (M := 4294967296) rfl rfl rfl rfl rfl ?_
 refine W.move rfl rfl ?_
 refine W.notU (M := 4294967296) rfl rfl rfl rfl ?_
 refine W.move rfl rfl ?_
 refine W.andU (M := 4294967296) rfl rfl rfl rfl rfl ?_
 refine W.xorU (M := 4294967296) rfl rfl rfl rfl rfl ?_
 refine W.addU (M := 4294967296) rfl rfl rfl rfl rfl ?_
 refine W.move rfl rfl ?_
 refine W.addU (M := 4294967296) rfl rfl rfl rfl rfl ?_
 refine W.assign rfl rfl (W.nil (At.thenCode (C.seq (C.region (W.move rfl rfl ?_)))))
 refine W.call Tryz.call116 rfl (Words.Rot_ok _ _ _) rfl ?_
 rintro v w' ⟨rfl, rfl⟩
 refine W.move rfl rfl ?_
 refine W.call Tryz.call116 rfl (Words.Rot_ok _ _ _) rfl ?_
 rintro v w' ⟨rfl, rfl⟩
 refine W.xorU (M := 4294967296) rfl rfl rfl rfl rfl ?_
 refine W.move rfl rfl ?_
 refine W.call Tryz.call116 rfl (Words.Rot_ok _ _ _) rfl ?_
 rintro v w' ⟨rfl, rfl⟩
 refine W.xorU (M := 4294967296) rfl rfl rfl rfl rfl ?_
 refine W.assign rfl rfl (W.nil (At.thenCode (C.seq (C.region (W.move rfl rfl (W.move rfl rfl (W.move rfl rfl ?_)))))))
 refine W.andU (M := 4294967296) rfl rfl rfl rfl rfl ?_
 refine W.move rfl rfl (W.move rfl rfl ?_)
 refine W.andU (M := 4294967296) rfl rfl rfl rfl rfl ?_
 refine W.xorU (M := 4294967296) rfl rfl rfl rfl rfl ?_
 refine W.move rfl rfl (W.move rfl rfl ?_)
 refine W.andU (M := 4294967296) rfl rfl rfl rfl rfl ?_
 refine W.xorU (M := 4294967296) rfl rfl rfl rfl rfl ?_
 refine W.addU (M := 4294967296) rfl rfl rfl rfl rfl ?_
 refine W.assign rfl rfl (W.nil (At.thenCode (C.seq (C.region (W.move rfl rfl (W.move rfl rfl ?_))))))
 refine W.addU (M := 4294967296) rfl rfl rfl rfl rfl ?_
 refine W.move rfl rfl (W.move rfl rfl (W.move rfl rfl ?_))
 refine W.indexA1 (j := 3) Words.X32 Tryz.underlying140 rfl rfl (by first | omega | decide) rfl ?_
 refine W.loadB rfl Tryz.underlying101 rfl (by assumption) rfl rfl ?_
 refine W.move rfl rfl ?_
 refine W.addU (M := 4294967296) rfl rfl rfl rfl rfl ?_
 refine W.move rfl rfl (W.move rfl rfl (W.move rfl rfl ?_))
 refine W.buildA ((stepL [a, b, c, d, e, f, g, h] k).map u32V) (List.replicate 8 (u32V 0)) X32 Tryz.underlying140 (by kernel_rfl) rfl rfl (u32_oneCell _) rfl rfl ?_
 refine W.storeA ((stepL [a, b, c, d, e, f, g, h] k).map u32V) rfl rfl hB4 rfl (by kernel_rfl) (u32_oneCell _) ?_
 intro wz hcz hBz
 refine W.nil (At.thenCode (C.ret ?_))
 -- RESULT IN A CELL
 refine At.retC Tryz.results109 rfl (hBz.cells (o := 0)) Tryz.underlying140 rfl (by kernel_rfl) ⟨rfl, ?_⟩
 exact ((hX2.ext hX4).ext hX1).news hcz (fun k hk => Or.inr (by omega))
theorem step_ok' {hs : List Nat} (hl : hs.length = 8) (k : Nat) (w : World) :
   Ct Tryz.prog 109 #[.agg (hs.map u32V).toArray, .int .u32 (k : Int)] w (fun v w' => v = .agg ((stepL hs k).map u32V).toArray ∧ Ext w w') := by
 obtain ⟨a, b, c, d, e, f, g, h, rfl⟩ := eight hl
 exact step_ok a b c d e f g h k w
def mid8 (hs R : List Nat) (j : Nat) : List Nat := addL (hs.take j) (R.take j) ++ hs.drop j
theorem addL_snoc : ∀ (x y : List Nat) (a b : Nat), x.length = y.length → addL (x ++ [a]) (y ++ [b]) = addL x y ++ [addM 4294967296 a b] := by
 intro x
 induction x with
 | nil => intro y a b h; cases y with
   | nil => rfl
   | cons => simp at h
 | cons p r ih => intro y a b h; cases y with
   | nil => simp at h
   | cons q s => simp only [List.cons_append, addL, ih s a b (by simpa using h)]
theorem addL_comm : ∀ (x y : List Nat), addL x y = addL y x := by
 intro x
 induction x with
 | nil => intro y; cases y <;> rfl
 | cons p r ih => intro y; cases y with
   | nil => rfl
   | cons q s => simp only [addL, ih s, addM, Nat.add_comm p q]
theorem mid8_length {hs R : List Nat} {j : Nat} (h : hs.length = 8) (hr : R.length = 8) (hj : j ≤ 8) : (mid8 hs R j).length = 8 := by
 unfold mid8
 rw [List.length_append, addL_length _ _ (by rw [List.length_take, List.length_take, h, hr]), List.length_take, List.length_drop]; omega
theorem mid8_get {hs R : List Nat} {j : Nat} (h : hs.length = 8) (hr : R.length = 8) (hj : j < 8) : (mid8 hs R j).getD j 0 = hs.getD j 0 := by
 have hl : (addL (hs.take j) (R.take j)).length = j := by rw [addL_length _ _ (by rw [List.length_take, List.length_take, h, hr]), List.length_take]; omega
 unfold mid8
 simp only [List.getD]
 rw [List.getElem?_append_right (by omega), hl, Nat.sub_self, List.getElem?_drop, Nat.add_zero]
theorem mid8_set {hs R : List Nat} {j : Nat} (h : hs.length = 8) (hr : R.length = 8) (hj : j < 8) : (mid8 hs R j).set j (addM 4294967296 (hs.getD j 0) (R.getD j 0)) = mid8 hs R (j + 1) := by
 have hl : (addL (hs.take j) (R.take j)).length = j := by rw [addL_length _ _ (by rw [List.length_take, List.length_take, h, hr]), List.length_take]; omega
 unfold mid8
 rw [List.set_append_right _ _ (by omega), hl, Nat.sub_self, List.drop_eq_getElem_cons (by omega), List.set_cons_zero, List.take_succ_eq_append_getElem (by omega), List.take_succ_eq_append_getElem (l := R) (by omega), addL_snoc _ _ _ _ (by rw [List.length_take, List.length_take, h, hr]), List.append_assoc]
 simp [List.getD, show j < hs.length by omega, show j < R.length by omega]
theorem mid8_full {hs R : List Nat} (h : hs.length = 8) (hr : R.length = 8) : mid8 hs R 8 = addL hs R := by
 unfold mid8
 rw [List.take_of_length_le (by omega), List.take_of_length_le (by omega), List.drop_eq_nil_of_le (by omega), List.append_nil]
theorem mix_ok {hs : List Nat} (hh : hs.length = 8) (ao : Option Addr) (cp : Nat) (xs : List UInt8) (w : World) (hS : Bs w ao cp xs) (hl : xs.length ≤ 1099511627776) :
   Ct Tryz.prog 92 #[.agg (hs.map u32V).toArray, .slice ao xs.length cp, .agg (shaK.map u32V).toArray] w (fun v w' => v = .agg ((mixV hs shaK (sch (wordsOf xs) 64)).map u32V).toArray ∧ Ext w w') := by
 refine Ct.enter [(0, .agg (hs.map u32V).toArray), (1, .slice ao xs.length cp), (2, .agg (shaK.map u32V).toArray)] Tryz.func92 rfl rfl rfl rfl ?_
 obtain ⟨K, hK⟩ : ∃ K, K = shaK := ⟨_, rfl⟩
 have hKl : K.length = 64 := by rw [hK]; rfl
 rw [← hK]
 obtain ⟨U, hW⟩ : ∃ U, U = sch (wordsOf xs) 64 := ⟨_, rfl⟩
 have hWl : U.length = 64 := by rw [hW, sch_length]
 rw [← hW]
 refine C.seq (C.region ?_)
 refine W.box (hs.map u32V) rfl rfl rfl ?_
 intro g3 w3 hg3 hX3 hB3
 have hs3 := hX3.size
 have hl3 := hB3.lt
 refine W.box (K.map u32V) rfl rfl rfl ?_
 intro g5 w5 hg5 hX5 hB5
 have hs5 := hX5.size
 have hl5 := hB5.lt
 refine W.alloc (z := .agg (List.replicate 8 (u32V 0)).toArray) (List.replicate 8 (u32V 0)) (by kernel_rfl) rfl rfl ?_
 intro g6 w6 hg6 hX6 hB6
 have hs6 := hX6.size
 have hl6 := hB6.lt
 refine W.nil (At.thenCode (C.seq (C.region ?_)))
 refine W.loadA rfl ((((hB3.ext hX5).ext hX6)).cells (o := 0)) Tryz.underlying140 rfl (by rw [List.drop_zero, List.length_map, hh]; kernel_rfl) rfl ?_
 refine W.alloc (z := .agg (List.replicate 8 (u32V 0)).toArray) (List.replicate 8 (u32V 0)) (by kernel_rfl) rfl rfl ?_
 intro g7 w7 hg7 hX7 hB7
 refine W.storeA (hs.map u32V) rfl rfl hB7 (by rw [List.length_map, hh]; rfl) (by rw [List.length_map, hh]; kernel_rfl) (u32_oneCell _) ?_
 intro w8 hc8 hB7
 have hB3 := (((hB3.ext hX5).ext hX6).ext hX7).chg hc8 (by omega)
 have hB5 := ((hB5.ext hX6).ext hX7).chg hc8 (by omega)
 have hB6 := (hB6.ext hX7).chg hc8 (by omega)
 have hX0 : Ext w w8 := (((hX3.ext hX5).ext hX6).ext hX7).news hc8 (fun k hk => Or.inr (by omega))
 refine W.nil (At.thenCode (C.seq (C.seq (C.region (W.move rfl rfl ?_)))))
 refine W.call Tryz.call108 rfl (schedule_ok _ _ _ _ (hS.ext hX0) hl) rfl ?_
 rintro v13 w13 ⟨rfl, hX13⟩
 rw [← hW]
 refine W.move rfl rfl (W.nil (At.thenCode (C.block ?_)))
 refine C.loop (X := Nat) (fun x_ => [(3, .pointer (some ⟨g3, 0, none⟩)), (5, .pointer (some ⟨g5, 0, none⟩)), (6, .pointer (some ⟨g6, 0, none⟩)), (7, .pointer (some ⟨g7, 0, none⟩)), (13, .agg (U.map u32V).toArray), (14, .int .i64 (x_ : Int))]) (fun x_ w1 => Ext w w1 ∧ x_ ≤ 64 ∧ Bk w1 g3 (hs.map u32V) ∧ Bk w1 g5 (K.map u32V) ∧ Bk w1 g6 (List.replicate 8 (u32V 0)) ∧ Bk w1 g7 ((rnd hs K U x_).map u32V)) (fun x_ => 64 - x_) (0) (sc rfl (sc rfl (sc rfl (sc rfl (sc rfl (sc rfl (Sub.nil))))))) ?start1 ?_
 case start1 =>
   show Ext w _ ∧ (0) ≤ 64 ∧ Bk _ g3 (hs.map u32V) ∧ Bk _ g5 (K.map u32V) ∧ Bk _ g6 (List.replicate 8 (u32V 0)) ∧ Bk _ g7 ((rnd hs K U (0)).map u32V)
   exact ⟨hX0.ext hX13, by omega, hB3.ext hX13, hB5.ext hX13, hB6.ext hX13, hB7.ext hX13⟩
 rintro i w1 hI_
 replace hI_ : Ext w w1 ∧ i ≤ 64 ∧ Bk w1 g3 (hs.map u32V) ∧ Bk w1 g5 (K.map u32V) ∧ Bk w1 g6 (List.replicate 8 (u32V 0)) ∧ Bk w1 g7 ((rnd hs K U i).map u32V) := hI_
 obtain ⟨hX1, hi, hB3, hB5, hB6, hB7⟩ := hI_
 refine C.weaken (l' := [(3, .pointer (some ⟨g3, 0, none⟩)), (5, .pointer (some ⟨g5, 0, none⟩)), (6, .pointer (some ⟨g6, 0, none⟩)), (7, .pointer (some ⟨g7, 0, none⟩)), (13, .agg (U.map u32V).toArray), (14, .int .i64 (i : Int))]) (sc rfl (sc rfl (sc rfl (sc rfl (sc rfl (sc rfl (Sub.nil))))))) ?_
 refine C.seq (C.region (W.lssI rfl rfl rfl (W.nil (At.thenCode (C.seq ?_)))))
 refine C.condD rfl (fun c15 => ?_) (fun c15 => ?_)
 refine C.skip (At.thenCode (C.seq (C.block (C.seq (C.region (W.move rfl rfl ?_))))))
 refine W.indexV i X32 Tryz.underlying142 Tryz.underlying101 rfl rfl rfl rfl (by omega) (map_get (by omega)) rfl ?_
 refine W.assign rfl rfl (W.assign rfl rfl (W.nil (At.thenCode ?_)))
 refine C.regionAny 7 (E_ (.agg ((rnd hs K U i).map u32V).toArray) :: E_ (.int .i64 (i : Int)) :: E_ (.pointer (some ⟨g5, i, none⟩)) :: E_ (.int .u32 ((K.getD i 0 : Nat) : Int)) :: E_ (.int .u32 ((U.getD i 0 : Nat) : Int)) :: E_ (.int .u32 ((addM 4294967296 (K.getD i 0) (U.getD i 0) : Nat) : Int)) :: E_ (.agg ((rnd hs K U (i + 1)).map u32V).toArray) :: []) [(3, .pointer (some ⟨g3, 0, none⟩)), (5, .pointer (some ⟨g5, 0, none⟩)), (6, .pointer (some ⟨g6, 0, none⟩)), (7, .pointer (some ⟨g7, 0, none⟩)), (13, .agg (U.map u32V).toArray), (14, .int .i64 (i : Int)), (8, .int .i64 (i : Int)), (9, .int .u32 ((U.getD i 0 : Nat) : Int))] [] (sc rfl (sc rfl (sc rfl (sc rfl (sc rfl (sc rfl (sc rfl (sc rfl (Sub.nil))))))))) (Sub.nil) (sc rfl (sc rfl (sc rfl (sc rfl (sc rfl (sc rfl (sc rfl (sc rfl (Sub.nil))))))))) (by kernel_rfl) rfl rfl rfl (sN (sN (sN (sN (sN (sN (sN (trivial)))))))) ?_ ?_
 refine And.intro ?_ ?_
 intro L_ w5 hX_ hs_ hf_ hd_
 refine W.s1 (hs_ 7 _ rfl) ?_
 refine W.loadA rfl ((hB7.ext hX_).cells (o := 0)) Tryz.underlying140 rfl (by rw [List.drop_zero, List.length_map, rnd_length hh]; kernel_rfl) rfl ?_
 exact W.e0 rfl
 refine And.intro (mB rfl rfl (fun _ => rfl) rfl) ?_
 refine And.intro ?_ ?_
 intro L_ w5 hX_ hs_ hf_ hd_
 obtain ⟨_, e1, rfl⟩ := hd_ 1 rfl
 refine W.s2 (hs_ 5 _ rfl) (e1 _ rfl) ?_
 refine W.indexA1 Words.X32 Tryz.underlying142 rfl rfl (by first | omega | decide) rfl ?_
 exact W.e0 rfl
 refine And.intro ?_ ?_
 intro L_ w5 hX_ hs_ hf_ hd_
 obtain ⟨_, e2, rfl⟩ := hd_ 2 rfl
 refine W.s1 (e2 _ rfl) ?_
 refine W.loadB rfl Tryz.underlying101 rfl (hB5.ext hX_) (map_get (by omega)) rfl ?_
 exact W.e0 rfl
 refine And.intro (mB rfl rfl (fun _ => rfl) rfl) ?_
 refine And.intro ?_ ?_
 intro L_ w5 hX_ hs_ hf_ hd_
 obtain ⟨_, e3, rfl⟩ := hd_ 3 rfl
 obtain ⟨_, e4, rfl⟩ := hd_ 4 rfl
 refine W.s2 (e3 _ rfl) (e4 _ rfl) ?_
 refine W.addU (M := 4294967296) rfl rfl rfl rfl rfl ?_
 exact W.e0 rfl
 refine And.intro ?_ ?_
 intro L_ w5 hX_ hs_ hf_ hd_
 obtain ⟨_, e0, rfl⟩ := hd_ 0 rfl
 obtain ⟨_, e5, rfl⟩ := hd_ 5 rfl
 refine W.s2 (e0 _ rfl) (e5 _ rfl) ?_
 refine W.call Tryz.call109 rfl (step_ok' (rnd_length hh K U i) _ _) rfl ?_
 rintro v24 w24 ⟨rfl, hX24⟩
 exact W.e1 hX24 rfl
 exact trivial
 intro L_ w5 hX5 hs_ hv_
 obtain ⟨_, e6, rfl⟩ := hv_ 6 (by decide)
 refine W.weaken (l' := [(24, _), (3, _), (5, _), (6, _), (7, _), (13, _), (14, _), (8, _), (9, _)]) (sc (e6 _ rfl) (sc (hs_ _ _ rfl) (sc (hs_ _ _ rfl) (sc (hs_ _ _ rfl) (sc (hs_ _ _ rfl) (sc (hs_ _ _ rfl) (sc (hs_ _ _ rfl) (sc (hs_ _ _ rfl) (sc (hs_ _ _ rfl) (Sub.nil)))))))))) ?_
 refine W.storeA ((rnd hs K U (i + 1)).map u32V) rfl rfl (hB7.ext hX5) (by rw [List.length_map, List.length_map, rnd_length hh, rnd_length hh]) (by rw [List.length_map, rnd_length hh]; kernel_rfl) (u32_oneCell _) ?_
 intro w9 hc9 hB9
 refine W.nil (At.blockNormal (At.thenCode (C.region ?_)))
 refine W.addI rfl rfl (by omega) rfl ?_
 refine W.move rfl rfl (W.nil ?_)
 refine At.thenRound (i + 1) (sc rfl (sc rfl (sc rfl (sc rfl (sc rfl (sc (look_eq rfl (by rw [show (i : Int) + 1 = ((i + 1 : Nat) : Int) by omega])) (Sub.nil))))))) (show Ext w _ ∧ (i + 1) ≤ 64 ∧ Bk _ g3 (hs.map u32V) ∧ Bk _ g5 (K.map u32V) ∧ Bk _ g6 (List.replicate 8 (u32V 0)) ∧ Bk _ g7 ((rnd hs K U (i + 1)).map u32V) from ?_) (show 64 - (i + 1) < 64 - i from ?_)
 exact ⟨(hX1.ext hX5).news hc9 (fun k hk => Or.inr (by omega)), by omega, (hB3.ext hX5).chg hc9 (by omega), (hB5.ext hX5).chg hc9 (by omega), (hB6.ext hX5).chg hc9 (by omega), hB9⟩
 omega
 obtain rfl : i = 64 := by omega
 have hR := rnd_length hh K U 64
 refine C.exit (At.thenExit (At.thenExit (At.blockSelf (At.thenCode (C.seq (C.seq (C.region (W.move rfl rfl (W.nil (At.thenCode (C.block ?_)))))))))))
 refine C.loop (X := Nat) (fun x_ => [(3, .pointer (some ⟨g3, 0, none⟩)), (6, .pointer (some ⟨g6, 0, none⟩)), (7, .pointer (some ⟨g7, 0, none⟩)), (26, .int .i64 (x_ : Int))]) (fun x_ w2 => Ext w w2 ∧ x_ ≤ 8 ∧ Bk w2 g3 ((mid8 hs (rnd hs K U 64) x_).map u32V) ∧ Bk w2 g6 (List.replicate 8 (u32V 0)) ∧ Bk w2 g7 ((rnd hs K U 64).map u32V)) (fun x_ => 8 - x_) (0) (sc rfl (sc rfl (sc rfl (sc rfl (Sub.nil))))) ?start2 ?_
 case start2 =>
   show Ext w _ ∧ (0) ≤ 8 ∧ Bk _ g3 ((mid8 hs (rnd hs K U 64) (0)).map u32V) ∧ Bk _ g6 (List.replicate 8 (u32V 0)) ∧ Bk _ g7 ((rnd hs K U 64).map u32V)
   exact ⟨hX1, by omega, hB3, hB6, hB7⟩
 rintro j w2 hI_
 replace hI_ : Ext w w2 ∧ j ≤ 8 ∧ Bk w2 g3 ((mid8 hs (rnd hs K U 64) j).map u32V) ∧ Bk w2 g6 (List.replicate 8 (u32V 0)) ∧ Bk w2 g7 ((rnd hs K U 64).map u32V) := hI_
 obtain ⟨hX1, hj, hB3, hB6, hB7⟩ := hI_
 refine C.weaken (l' := [(3, .pointer (some ⟨g3, 0, none⟩)), (6, .pointer (some ⟨g6, 0, none⟩)), (7, .pointer (some ⟨g7, 0, none⟩)), (26, .int .i64 (j : Int))]) (sc rfl (sc rfl (sc rfl (sc rfl (Sub.nil))))) ?_
 refine C.seq (C.region (W.lssI rfl rfl rfl (W.nil (At.thenCode (C.seq ?_)))))
 refine C.condD rfl (fun c27 => ?_) (fun c27 => ?_)
 have hm := mid8_length (j := j) hh hR hj
 refine C.skip (At.thenCode (C.seq (C.block (C.seq (C.region (W.move rfl rfl (W.assign rfl rfl (W.nil (At.thenCode ?_)))))))))
 refine C.regionAny 8 (E_ (.int .i64 (j : Int)) :: E_ (.pointer (some ⟨g3, j, none⟩)) :: E_ (.int .u32 ((hs.getD j 0 : Nat) : Int)) :: E_ (.int .i64 (j : Int)) :: E_ (.pointer (some ⟨g7, j, none⟩)) :: E_ (.int .u32 (((rnd hs K U 64).getD j 0 : Nat) : Int)) :: E_ (.int .u32 ((addM 4294967296 (hs.getD j 0) ((rnd hs K U 64).getD j 0) : Nat) : Int)) :: E_ (.pointer (some ⟨g3, j, none⟩)) :: []) [(3, .pointer (some ⟨g3, 0, none⟩)), (6, .pointer (some ⟨g6, 0, none⟩)), (7, .pointer (some ⟨g7, 0, none⟩)), (26, .int .i64 (j : Int)), (10, .int .i64 (j : Int))] [] (sc rfl (sc rfl (sc rfl (sc rfl (sc rfl (Sub.nil)))))) (Sub.nil) (sc rfl (sc rfl (sc rfl (sc rfl (sc rfl (Sub.nil)))))) (by kernel_rfl) rfl rfl rfl (sN (sN (sN (sN (sN (sN (sN (sN (trivial))))))))) ?_ ?_
 refine And.intro (mB rfl rfl (fun _ => rfl) rfl) ?_
 refine And.intro ?_ ?_
 intro L_ w10 hX_ hs_ hf_ hd_
 obtain ⟨_, e0, rfl⟩ := hd_ 0 rfl
 refine W.s2 (hs_ 3 _ rfl) (e0 _ rfl) ?_
 refine W.indexA1 Words.X32 Tryz.underlying140 rfl rfl (by first | omega | decide) rfl ?_
 exact W.e0 rfl
 refine And.intro ?_ ?_
 intro L_ w10 hX_ hs_ hf_ hd_
 obtain ⟨_, e1, rfl⟩ := hd_ 1 rfl
 refine W.s1 (e1 _ rfl) ?_
 refine W.loadB rfl Tryz.underlying101 rfl (hB3.ext hX_) (by rw [map_get (by omega), mid8_get hh hR (by omega)]) rfl ?_
 exact W.e0 rfl
 refine And.intro (mB rfl rfl (fun _ => rfl) rfl) ?_
 refine And.intro ?_ ?_
 intro L_ w10 hX_ hs_ hf_ hd_
 obtain ⟨_, e3, rfl⟩ := hd_ 3 rfl
 refine W.s2 (hs_ 7 _ rfl) (e3 _ rfl) ?_
 refine W.indexA1 Words.X32 Tryz.underlying140 rfl rfl (by first | omega | decide) rfl ?_
 exact W.e0 rfl
 refine And.intro ?_ ?_
 intro L_ w10 hX_ hs_ hf_ hd_
 obtain ⟨_, e4, rfl⟩ := hd_ 4 rfl
 refine W.s1 (e4 _ rfl) ?_
 refine W.loadB rfl Tryz.underlying101 rfl (hB7.ext hX_) (map_get (by omega)) rfl ?_
 exact W.e0 rfl
 refine And.intro ?_ ?_
 intro L_ w10 hX_ hs_ hf_ hd_
 obtain ⟨_, e2, rfl⟩ := hd_ 2 rfl
 obtain ⟨_, e5, rfl⟩ := hd_ 5 rfl
 refine W.s2 (e2 _ rfl) (e5 _ rfl) ?_
 refine W.addU (M := 4294967296) rfl rfl rfl rfl rfl ?_
 exact W.e0 rfl
 refine And.intro ?_ ?_
 intro L_ w10 hX_ hs_ hf_ hd_
 obtain ⟨_, e0, rfl⟩ := hd_ 0 rfl
 refine W.s2 (hs_ 3 _ rfl) (e0 _ rfl) ?_
 refine W.indexA1 Words.X32 Tryz.underlying140 rfl rfl (by first | omega | decide) rfl ?_
 exact W.e0 rfl
 exact trivial
 intro L_ w10 hX10 hs_ hv_
 obtain ⟨_, e7, rfl⟩ := hv_ 7 (by decide)
 obtain ⟨_, e6, rfl⟩ := hv_ 6 (by decide)
 refine W.weaken (l' := [(36, _), (35, _), (3, _), (6, _), (7, _), (26, _), (10, _)]) (sc (e7 _ rfl) (sc (e6 _ rfl) (sc (hs_ _ _ rfl) (sc (hs_ _ _ rfl) (sc (hs_ _ _ rfl) (sc (hs_ _ _ rfl) (sc (hs_ _ _ rfl) (Sub.nil)))))))) ?_
 refine W.store1 rfl rfl rfl (hB3.ext hX10) (by rw [List.length_map]; omega) (by kernel_rfl) ?_
 intro w9 hc9 hB9
 have hB9' : Bk w9 g3 ((mid8 hs (rnd hs K U 64) (j + 1)).map u32V) := by
   rw [← mid8_set hh hR (by omega), List.map_set]
   exact hB9
 refine W.nil (At.blockNormal (At.thenCode (C.region ?_)))
 refine W.addI rfl rfl (by omega) rfl ?_
 refine W.move rfl rfl (W.nil ?_)
 refine At.thenRound (j + 1) (sc rfl (sc rfl (sc rfl (sc (look_eq rfl (by rw [show (j : Int) + 1 = ((j + 1 : Nat) : Int) by omega])) (Sub.nil))))) (show Ext w _ ∧ (j + 1) ≤ 8 ∧ Bk _ g3 ((mid8 hs (rnd hs K U 64) (j + 1)).map u32V) ∧ Bk _ g6 (List.replicate 8 (u32V 0)) ∧ Bk _ g7 ((rnd hs K U 64).map u32V) from ?_) (show 8 - (j + 1) < 8 - j from ?_)
 exact ⟨(hX1.ext hX10).news hc9 (fun k hk => Or.inr (by omega)), by omega, hB9', (hB6.ext hX10).chg hc9 (by omega), (hB7.ext hX10).chg hc9 (by omega)⟩
 omega
 refine C.exit (At.thenExit (At.thenExit (At.blockSelf (At.thenCode (C.seq (C.region ?_))))))
 obtain rfl : j = 8 := by omega
 rw [mid8_full hh hR] at hB3
 have hml : (mixV hs K U).length = 8 := mixV_length hh _ _
 refine W.loadA (cs := (mixV hs K U).map u32V) rfl (hB3.cells (o := 0)) Tryz.underlying140 rfl (by rw [List.length_map, hml]; kernel_rfl) rfl ?_
 refine W.storeA ((mixV hs K U).map u32V) rfl rfl hB6 (by rw [List.length_map, hml]; rfl) (by rw [List.length_map, hml]; kernel_rfl) (u32_oneCell _) ?_
 intro wz hcz hBz
 refine W.nil (At.thenCode (C.ret ?_))
 -- RESULT IN A CELL
 refine At.retC Tryz.results92 rfl (hBz.cells (o := 0)) Tryz.underlying140 rfl (by rw [List.drop_zero, List.length_map, hml]; kernel_rfl) ⟨rfl, ?_⟩
 exact hX1.news hcz (fun k hk => Or.inr (by omega))
def padZ (n : Nat) : Nat := (119 - n % 64) % 64
def padV (xs : List UInt8) : List UInt8 := xs ++ [128] ++ List.replicate (padZ xs.length) 0 ++ be64 (xs.length * 8)
theorem padV_length (xs : List UInt8) : (padV xs).length = xs.length + 1 + padZ xs.length + 8 := by
 unfold padV
 rw [List.length_append, List.length_append, List.length_append, be64_length, List.length_replicate]; rfl
theorem padV_mod (xs : List UInt8) : (padV xs).length % 64 = 0 := by rw [padV_length]; unfold padZ; omega
theorem padV_le (xs : List UInt8) : (padV xs).length ≤ xs.length + 72 := by rw [padV_length]; unfold padZ; omega
def blkH (all : List UInt8) : Nat → List Nat
  | 0 => shaH
  | j + 1 => mixV (blkH all j) shaK (sch (wordsOf ((all.drop (64 * j)).take 64)) 64)
theorem blkH_length (all : List UInt8) : ∀ j, (blkH all j).length = 8 := by
 intro j
 induction j with
 | zero => rfl
 | succ j ih => exact mixV_length ih _ _
def be32L : List Nat → List UInt8
  | [] => []
  | x :: r => be32 x ++ be32L r
theorem be32L_snoc (l : List Nat) (x : Nat) : be32L (l ++ [x]) = be32L l ++ be32 x := by
 induction l with
 | nil => simp [be32L]
 | cons y r ih => simp only [List.cons_append, be32L, ih, List.append_assoc]
theorem be32L_length (l : List Nat) : (be32L l).length = 4 * l.length := by
 induction l with
 | nil => rfl
 | cons y r ih => simp only [be32L, List.length_append, be32_length, ih, List.length_cons]; omega
def shaV (xs : List UInt8) : List UInt8 := be32L (blkH (padV xs) ((padV xs).length / 64))
theorem shaV_length (xs : List UInt8) : (shaV xs).length = 32 := by rw [shaV, be32L_length, blkH_length]
def keyV (k : List UInt8) : Value := .agg (k.map byteV).toArray
theorem rep_snoc (k : Nat) : List.replicate (k + 1) (0 : UInt8) = List.replicate k 0 ++ [0] := by rw [List.replicate_succ']
theorem padded_ok (ao : Option Addr) (c : Nat) (xs : List UInt8) (w : World) (hS : Bs w ao c xs) (hl : xs.length ≤ 1099511626000) :
   Ct Tryz.prog 91 #[.slice ao xs.length c] w (fun v w' => Ow w' w.heap.size 5 v (padV xs) ∧ Ext w w') := by
 refine Ct.enter [(0, .slice ao xs.length c)] Tryz.func91 rfl rfl rfl rfl ?_
 refine C.seq (C.region (W.assign rfl rfl (W.nil (At.thenCode (C.seq (C.region (W.move rfl rfl ?_)))))))
 refine W.appendB E8 Tryz.underlying22 rfl rfl (Ow.nil w w.heap.size 5) hS (by simp; omega) (Nat.le_refl _) rfl ?_
 rw [List.nil_append]
 intro v5 w5 ho5 hg5 _
 have hX5 : Ext w w5 := (Chg.of_grown hg5).mono fun k hk => by cases hk
 refine W.litB [128] E8 Tryz.underlying22 rfl rfl rfl rfl rfl ?_
 intro g6 w6 hg6 hX6 _ hb6
 have ho6 := ownsRow_ext ho5 hX6
 refine W.appendB E8 Tryz.underlying22 rfl rfl ho6 hb6 (by simp; omega) (by have := hX5.size; have := hX6.size; omega) rfl ?_
 intro v7 w7 ho7 hg7 _
 have hX7 : Ext w w7 := (hX5.ext hX6).news (Chg.of_grown hg7) (fun k hk => Or.inr ((World.ownsRow.lt ho6 k hk.symm).1))
 have hz : padZ xs.length < 64 ∧ (xs.length + 1 + padZ xs.length) % 64 = 56 := by unfold padZ; omega
 refine W.assign rfl rfl (W.nil (At.thenCode (C.seq (C.block ?_))))
 refine C.loop (X := Nat × Value) (fun x_ => [(0, .slice ao xs.length c), (3, x_.2)]) (fun x_ w1 => Ext w w1 ∧ x_.1 ≤ padZ xs.length ∧ Ow w1 w.heap.size 5 x_.2 (xs ++ [128] ++ List.replicate x_.1 0)) (fun x_ => padZ xs.length - x_.1) (0, v7) (sc rfl (sc rfl (Sub.nil))) ?start1 ?_
 case start1 =>
   show Ext w _ ∧ (0) ≤ padZ xs.length ∧ Ow _ w.heap.size 5 (v7) (xs ++ [128] ++ List.replicate (0) 0)
   exact ⟨hX7, by omega, by rw [List.replicate_zero, List.append_nil]; exact ho7⟩
 rintro ⟨k, v⟩ w1 hI_
 replace hI_ : Ext w w1 ∧ k ≤ padZ xs.length ∧ Ow w1 w.heap.size 5 v (xs ++ [128] ++ List.replicate k 0) := hI_
 obtain ⟨hX1, hk, hO1⟩ := hI_
 refine C.weaken (l' := [(0, .slice ao xs.length c), (3, v)]) (sc rfl (sc rfl (Sub.nil))) ?_
 obtain ⟨ao1, c1, rfl, hS1, hb1⟩ := ownsRow_form hO1
 have hln : (xs ++ [128] ++ List.replicate k (0 : UInt8)).length = xs.length + 1 + k := by simp; omega
 refine C.seq (C.seq (C.region (W.move rfl rfl (W.lenS rfl Tryz.underlying22 rfl ?_))))
 refine W.remI rfl rfl (by omega) rfl ?_
 refine W.neqI rfl rfl rfl (W.nil (At.thenCode ?_))
 refine C.condD rfl (fun c11 => ?_) (fun c11 => ?_)
 refine C.skip (At.thenCode (C.block (C.region (W.move rfl rfl ?_))))
 refine W.litB [0] E8 Tryz.underlying22 rfl rfl rfl rfl rfl ?_
 intro g13 w13 hg13 hX13 _ hb13
 have ho13 := ownsRow_ext hO1 hX13
 refine W.appendB E8 Tryz.underlying22 rfl rfl ho13 hb13 (by rw [hln, List.length_singleton]; omega) (by have := hX1.size; have := hX13.size; omega) rfl ?_
 intro v14 w14 ho14 hg14 _
 have hX14 : Ext w w14 := (hX1.ext hX13).news (Chg.of_grown hg14) (fun k hk => Or.inr ((World.ownsRow.lt ho13 k hk.symm).1))
 refine W.assign rfl rfl (W.nil (At.blockNormal ?_))
 refine At.thenRound (k + 1, v14) (sc rfl (sc rfl (Sub.nil))) (show Ext w _ ∧ (k + 1) ≤ padZ xs.length ∧ Ow _ w.heap.size 5 (v14) (xs ++ [128] ++ List.replicate (k + 1) 0) from ?_) (show padZ xs.length - (k + 1) < padZ xs.length - k from ?_)
 refine ⟨hX14, by omega, ?_⟩
 rw [rep_snoc, ← List.append_assoc]
 exact ho14
 omega
 refine C.exit (At.thenExit (At.thenExit (At.blockSelf (At.thenCode (C.seq (C.region (W.move rfl rfl (W.move rfl rfl (W.lenS rfl Tryz.underlying22 rfl ?_)))))))))
 refine W.convIN (M := 18446744073709551616) rfl Tryz.underlying3 Tryz.underlying83 rfl rfl (by omega) rfl ?_
 refine W.shlU (M := 18446744073709551616) (B := 64) (s := 3) rfl rfl rfl rfl rfl rfl ?_
 have hS0 := hS.ext hX1
 obtain rfl : k = padZ xs.length := by omega
 refine W.call Tryz.call44 rfl (Words.Put64_ok _ _ _ _ _ hS1 (by rw [hln]; omega)) rfl ?_
 rintro v20 w20 ⟨hO20, hX20⟩
 refine W.assign rfl rfl (W.nil (At.thenCode (C.ret ?_)))
 refine At.ret1 Tryz.results91 rfl ?_
 refine ⟨?_, hX1.ext hX20⟩
 have := ownsRow_base hO20 hX1.size
 have e : shlM 18446744073709551616 64 ((xs.length : Int).toNat) 3 = xs.length * 8 := by
   unfold shlM
   rw [Int.toNat_natCast, show min 3 64 = 3 from rfl, show (2 : Nat) ^ 3 = 8 from rfl]
   omega
 rw [e] at this
 exact this
theorem Sum_ok (ao : Option Addr) (c : Nat) (xs : List UInt8) (w : World) (hS : Bs w ao c xs) (hl : xs.length ≤ 1000000) :
   Ct Tryz.prog 56 #[.slice ao xs.length c] w (fun v w' => v = keyV (shaV xs) ∧ Ext w w') := by
 refine Ct.enter [(0, .slice ao xs.length c)] Tryz.func56 rfl rfl rfl rfl ?_
 refine C.seq (C.region ?_)
 refine W.alloc (z := .agg (List.replicate 32 (byteV 0)).toArray) (List.replicate 32 (byteV 0)) (by kernel_rfl) rfl rfl ?_
 intro g2 w2 hg2 hX2 hB2
 have hl2 := hB2.lt
 refine W.nil (At.thenCode (C.seq (C.region ?_)))
 refine W.call Tryz.call89 rfl (first_ok _) rfl ?_
 rintro v10 w10 ⟨rfl, hX10⟩
 refine W.call Tryz.call90 rfl (numbers_ok _) rfl ?_
 rintro v11 w11 ⟨rfl, hX11⟩
 refine W.alloc (z := .agg (List.replicate 8 (u32V 0)).toArray) (List.replicate 8 (u32V 0)) (by kernel_rfl) rfl rfl ?_
 intro g3 w3 hg3 hX3 hB3
 have hl3 := hB3.lt
 have hX2' := (hX2.ext hX10).ext hX11
 have hB2 := ((hB2.ext hX10).ext hX11)
 have hl2 := hB2.lt
 have hB2 := hB2.ext hX3
 refine W.alloc (z := .agg (List.replicate 64 (u32V 0)).toArray) (List.replicate 64 (u32V 0)) (by kernel_rfl) rfl rfl ?_
 intro g4 w4 hg4 hX4 hB4
 have hs2 := hX2'.size
 have hs3 := hX3.size
 have hs4 := hX4.size
 have hn23 : g2 ≠ g3 := by omega
 have hn24 : g2 ≠ g4 := by omega
 have hn34 : g3 ≠ g4 := by omega
 have hb2 : w.heap.size ≤ g2 := by omega
 have hb3 : w.heap.size ≤ g3 := by omega
 have hb4 : w.heap.size ≤ g4 := by omega
 refine W.storeA (shaH.map u32V) rfl rfl (hB3.ext hX4) rfl (by kernel_rfl) (u32_oneCell _) ?_
 intro w5 hc5 hB3
 have hX5 := (hX2'.ext hX3).ext hX4
 have hX5 : Ext w w5 := hX5.news hc5 (fun k hk => Or.inr (by omega))
 refine W.storeA (shaK.map u32V) rfl rfl (hB4.chg hc5 (by omega)) rfl (by kernel_rfl) (u32_oneCell _) ?_
 intro w6 hc6 hB4
 have hX6 : Ext w w6 := hX5.news hc6 (fun k hk => Or.inr (by omega))
 have hB3 := hB3.chg hc6 (by omega)
 have hB2 := ((hB2.ext hX4).chg hc5 (by omega)).chg hc6 (by omega)
 have hlt3 := hB3.lt
 refine W.nil (At.thenCode (C.seq (C.region (W.move rfl rfl ?_))))
 refine W.call Tryz.call91 rfl (padded_ok _ _ _ _ (hS.ext hX6) (by omega)) rfl ?_
 rintro v13 w13 ⟨hO13, hX13⟩
 obtain ⟨al, hal⟩ : ∃ al, al = padV xs := ⟨_, rfl⟩
 have hal0 : al.length % 64 = 0 := by rw [hal]; exact padV_mod xs
 have hal1 : al.length ≤ xs.length + 72 := by rw [hal]; exact padV_le xs
 rw [← hal] at hO13
 obtain ⟨ao13, c13, rfl, hS13, hb13⟩ := ownsRow_form hO13
 refine W.assign rfl rfl (W.nil (At.thenCode (C.seq (C.seq (C.region (W.assign rfl rfl (W.nil (At.thenCode (C.block ?_)))))))))
 refine C.loop (X := Nat) (fun x_ => [(2, .pointer (some ⟨g2, 0, none⟩)), (3, .pointer (some ⟨g3, 0, none⟩)), (4, .pointer (some ⟨g4, 0, none⟩)), (5, .slice ao13 al.length c13), (6, .int .i64 ((64 * x_ : Nat) : Int))]) (fun x_ w1 => Ext w w1 ∧ Bs w1 ao13 c13 al ∧ 64 * x_ ≤ al.length ∧ Bk w1 g2 (List.replicate 32 (byteV 0)) ∧ Bk w1 g3 ((blkH al x_).map u32V) ∧ Bk w1 g4 (shaK.map u32V)) (fun x_ => al.length - 64 * x_) (0) (sc rfl (sc rfl (sc rfl (sc rfl (sc rfl (Sub.nil)))))) ?start1 ?_
 case start1 =>
   show Ext w _ ∧ Bs _ ao13 c13 al ∧ 64 * (0) ≤ al.length ∧ Bk _ g2 (List.replicate 32 (byteV 0)) ∧ Bk _ g3 ((blkH al (0)).map u32V) ∧ Bk _ g4 (shaK.map u32V)
   exact ⟨hX6.ext hX13, hS13, by omega, hB2.ext hX13, hB3.ext hX13, hB4.ext hX13⟩
 rintro j w1 hI_
 replace hI_ : Ext w w1 ∧ Bs w1 ao13 c13 al ∧ 64 * j ≤ al.length ∧ Bk w1 g2 (List.replicate 32 (byteV 0)) ∧ Bk w1 g3 ((blkH al j).map u32V) ∧ Bk w1 g4 (shaK.map u32V) := hI_
 obtain ⟨hX1, hSa, hj, hB2, hB3, hB4⟩ := hI_
 refine C.weaken (l' := [(2, .pointer (some ⟨g2, 0, none⟩)), (3, .pointer (some ⟨g3, 0, none⟩)), (4, .pointer (some ⟨g4, 0, none⟩)), (5, .slice ao13 al.length c13), (6, .int .i64 ((64 * j : Nat) : Int))]) (sc rfl (sc rfl (sc rfl (sc rfl (sc rfl (Sub.nil)))))) ?_
 refine C.seq (C.seq (C.region (W.move rfl rfl (W.move rfl rfl (W.lenS rfl Tryz.underlying22 rfl (W.lssI rfl rfl rfl (W.nil (At.thenCode ?_))))))))
 refine C.condD rfl (fun c17 => ?_) (fun c17 => ?_)
 refine C.skip (At.thenCode (C.seq (C.block ?_)))
 refine C.regionAny 8 (E_ (.agg ((blkH al j).map u32V).toArray) :: E_ (.slice ao13 al.length c13) :: E_ (.int .i64 ((64 * j : Nat) : Int)) :: E_ (.int .i64 ((64 * j : Nat) : Int)) :: E_ (.int .i64 ((64 * j + 64 : Nat) : Int)) :: (fun v w => ∃ ao c, v = .slice ao 64 c ∧ Bs w ao c ((al.drop (64 * j)).take 64)) :: E_ (.agg (shaK.map u32V).toArray) :: E_ (.agg ((blkH al (j + 1)).map u32V).toArray) :: []) [(2, .pointer (some ⟨g2, 0, none⟩)), (3, .pointer (some ⟨g3, 0, none⟩)), (4, .pointer (some ⟨g4, 0, none⟩)), (5, .slice ao13 al.length c13), (6, .int .i64 ((64 * j : Nat) : Int))] [] (sc rfl (sc rfl (sc rfl (sc rfl (sc rfl (Sub.nil)))))) (Sub.nil) (sc rfl (sc rfl (sc rfl (sc rfl (sc rfl (Sub.nil)))))) (by kernel_rfl) rfl rfl rfl (sN (sN (sN (sN (sN (sM (fun _ _ _ ⟨ao, c, e, h⟩ g => ⟨ao, c, e, Sl.ext h g⟩) (sN (sN (trivial))))))))) ?_ ?_
 refine And.intro ?_ ?_
 intro L_ w6 hX_ hs_ hf_ hd_
 refine W.s1 (hs_ 3 _ rfl) ?_
 refine W.loadA rfl ((hB3.ext hX_).cells (o := 0)) Tryz.underlying140 rfl (by rw [List.drop_zero, List.length_map, blkH_length]; kernel_rfl) rfl ?_
 exact W.e0 rfl
 refine And.intro (mB rfl rfl (fun _ => rfl) rfl) ?_
 refine And.intro (mB rfl rfl (fun _ => rfl) rfl) ?_
 refine And.intro (mB rfl rfl (fun _ => rfl) rfl) ?_
 refine And.intro ?_ ?_
 intro L_ w6 hX_ hs_ hf_ hd_
 obtain ⟨_, e3, rfl⟩ := hd_ 3 rfl
 refine W.s1 (e3 _ rfl) ?_
 refine W.addI rfl rfl (by omega) rfl ?_
 rw [show ((64 * j : Nat) : Int) + 64 = ((64 * j + 64 : Nat) : Int) by omega]
 exact W.e0 rfl
 refine And.intro ?_ ?_
 intro L_ w6 hX_ hs_ hf_ hd_
 obtain ⟨_, e1, rfl⟩ := hd_ 1 rfl
 obtain ⟨_, e2, rfl⟩ := hd_ 2 rfl
 obtain ⟨_, e4, rfl⟩ := hd_ 4 rfl
 refine W.s3 (e1 _ rfl) (e2 _ rfl) (e4 _ rfl) ?_
 have h64 : 64 * j + 64 ≤ al.length := by omega
 have hlt : ((al.drop (64 * j)).take 64).length = 64 := by rw [List.length_take, List.length_drop]; omega
 refine W.slice (lo := 64 * j) (hi := 64 * j + 64) E8 Tryz.underlying22 rfl (hSa.ext hX_) (.inr ⟨_, _, rfl, rfl⟩) (.inr ⟨_, _, rfl, rfl⟩) (by omega) (by omega) rfl ?_
 intro ao25 c25 hS25 _
 rw [show 64 * j + 64 - 64 * j = 64 by omega, Nat.mul_one, Nat.mul_one, ← List.map_drop, ← List.map_take] at hS25
 rw [show 64 * j + 64 - 64 * j = 64 by omega]
 have hS25 : Bs w6 ao25 c25 ((al.drop (64 * j)).take 64) := by show Sl _ _ _ _ _ _; rw [hlt]; exact hS25
 exact W.e0 ⟨_, _, rfl, hS25⟩
 refine And.intro ?_ ?_
 intro L_ w6 hX_ hs_ hf_ hd_
 refine W.s1 (hs_ 4 _ rfl) ?_
 refine W.loadA rfl ((hB4.ext hX_).cells (o := 0)) Tryz.underlying142 rfl (by kernel_rfl) rfl ?_
 exact W.e0 rfl
 refine And.intro ?_ ?_
 intro L_ w6 hX_ hs_ hf_ hd_
 obtain ⟨_, e0, rfl⟩ := hd_ 0 rfl
 obtain ⟨v5, e5, r5⟩ := hd_ 5 rfl
 obtain ⟨ao5, c5, rfl, hS5⟩ := r5
 obtain ⟨_, e6, rfl⟩ := hd_ 6 rfl
 refine W.s3 (e0 _ rfl) (e5 _ rfl) (e6 _ rfl) ?_
 have hlt : ((al.drop (64 * j)).take 64).length = 64 := by rw [List.length_take, List.length_drop]; omega
 have hmx := mix_ok (blkH_length al j) ao5 c5 ((al.drop (64 * j)).take 64) w6 hS5 (by omega)
 rw [hlt] at hmx
 refine W.call Tryz.call92 rfl hmx rfl ?_
 rintro v27 w27 ⟨rfl, hX27⟩
 exact W.e1 hX27 rfl
 exact trivial
 intro L_ w6 hX6 hs_ hv_
 obtain ⟨_, e7, rfl⟩ := hv_ 7 (by decide)
 refine W.weaken (l' := [(27, _), (2, _), (3, _), (4, _), (5, _), (6, _)]) (sc (e7 _ rfl) (sc (hs_ _ _ rfl) (sc (hs_ _ _ rfl) (sc (hs_ _ _ rfl) (sc (hs_ _ _ rfl) (sc (hs_ _ _ rfl) (Sub.nil))))))) ?_
 refine W.storeA ((blkH al (j + 1)).map u32V) rfl rfl (hB3.ext hX6) (by rw [List.length_map, List.length_map, blkH_length, blkH_length]) (by rw [List.length_map, blkH_length]; kernel_rfl) (u32_oneCell _) ?_
 intro w9 hc9 hB9
 refine W.nil (At.blockNormal (At.thenCode (C.region (W.move rfl rfl ?_))))
 refine W.addI rfl rfl (by omega) rfl ?_
 refine W.assign rfl rfl (W.nil ?_)
 refine At.thenRound (j + 1) (sc rfl (sc rfl (sc rfl (sc rfl (sc (look_eq rfl (by rw [show ((64 * j : Nat) : Int) + 64 = ((64 * (j + 1) : Nat) : Int) by omega])) (Sub.nil)))))) (show Ext w _ ∧ Bs _ ao13 c13 al ∧ 64 * (j + 1) ≤ al.length ∧ Bk _ g2 (List.replicate 32 (byteV 0)) ∧ Bk _ g3 ((blkH al (j + 1)).map u32V) ∧ Bk _ g4 (shaK.map u32V) from ?_) (show al.length - 64 * (j + 1) < al.length - 64 * j from ?_)
 refine ⟨(hX1.ext hX6).news hc9 (fun k hk => Or.inr (by omega)), (hSa.ext hX6).chg hc9 (fun ad had _ hk => ?_), by omega, (hB2.ext hX6).chg hc9 (by omega), hB9, (hB4.ext hX6).chg hc9 (by omega)⟩
 have := hb13 ad had
 omega
 omega
 have hjn : j = al.length / 64 := by omega
 have hHl := blkH_length al j
 obtain ⟨H, hH⟩ : ∃ H, H = blkH al j := ⟨_, rfl⟩
 rw [← hH] at hB3 hHl
 refine C.exit (At.thenExit (At.thenExit (At.blockSelf (At.thenCode (C.seq (C.region (W.assign rfl rfl (W.nil (At.thenCode (C.seq (C.seq ?_)))))))))))
 refine C.region ?_
 refine W.loadA rfl (hB3.cells (o := 0)) Tryz.underlying140 rfl (by rw [List.drop_zero, List.length_map, hHl]; kernel_rfl) rfl ?_
 refine W.move rfl rfl (W.nil (At.thenCode (C.block ?_)))
 refine C.loop (X := Nat × Value) (fun x_ => [(2, .pointer (some ⟨g2, 0, none⟩)), (28, .agg (H.map u32V).toArray), (29, .int .i64 (x_.1 : Int)), (7, x_.2)]) (fun x_ w2 => Ext w w2 ∧ x_.1 ≤ 8 ∧ Bk w2 g2 (List.replicate 32 (byteV 0)) ∧ ∃ b, Ow w2 b 5 x_.2 (be32L (H.take x_.1))) (fun x_ => 8 - x_.1) (0, .slice none 0 0) (sc rfl (sc rfl (sc rfl (sc rfl (Sub.nil))))) ?start2 ?_
 case start2 =>
   show Ext w _ ∧ (0) ≤ 8 ∧ Bk _ g2 (List.replicate 32 (byteV 0)) ∧ ∃ b, Ow _ b 5 (.slice none 0 0) (be32L (H.take (0)))
   exact ⟨hX1, by omega, hB2, 0, Ow.nil _ _ _⟩
 rintro ⟨i, v⟩ w2 hI_
 replace hI_ : Ext w w2 ∧ i ≤ 8 ∧ Bk w2 g2 (List.replicate 32 (byteV 0)) ∧ ∃ b, Ow w2 b 5 v (be32L (H.take i)) := hI_
 obtain ⟨hX1, hi, hB2, b2', hO2⟩ := hI_
 refine C.weaken (l' := [(2, .pointer (some ⟨g2, 0, none⟩)), (28, .agg (H.map u32V).toArray), (29, .int .i64 (i : Int)), (7, v)]) (sc rfl (sc rfl (sc rfl (sc rfl (Sub.nil))))) ?_
 obtain ⟨ao2, c2, rfl, hS2, hb2'⟩ := ownsRow_form hO2
 have hbl := be32L_length (H.take i)
 rw [List.length_take] at hbl
 refine C.seq (C.region (W.lssI rfl rfl rfl (W.nil (At.thenCode (C.seq ?_)))))
 refine C.condD rfl (fun c30 => ?_) (fun c30 => ?_)
 refine C.skip (At.thenCode (C.seq (C.block (C.seq (C.region ?_)))))
 refine W.indexV i X32 Tryz.underlying140 Tryz.underlying101 rfl rfl rfl rfl (by omega) (map_get (by omega)) rfl ?_
 refine W.assign rfl rfl (W.nil (At.thenCode (C.region (W.move rfl rfl (W.move rfl rfl ?_)))))
 refine W.call Tryz.call84 rfl (Words.Put32_ok _ _ _ _ _ hS2 (by omega)) rfl ?_
 rintro v34 w34 ⟨hO34, hX34⟩
 refine W.assign rfl rfl (W.nil (At.blockNormal (At.thenCode (C.region ?_))))
 refine W.addI rfl rfl (by omega) rfl ?_
 refine W.move rfl rfl (W.nil ?_)
 refine At.thenRound (i + 1, v34) (sc rfl (sc rfl (sc (look_eq rfl (by rw [show (i : Int) + 1 = ((i + 1 : Nat) : Int) by omega])) (sc rfl (Sub.nil))))) (show Ext w _ ∧ (i + 1) ≤ 8 ∧ Bk _ g2 (List.replicate 32 (byteV 0)) ∧ ∃ b, Ow _ b 5 (v34) (be32L (H.take (i + 1))) from ?_) (show 8 - (i + 1) < 8 - i from ?_)
 refine ⟨hX1.ext hX34, by omega, hB2.ext hX34, w2.heap.size, ?_⟩
 have e : H.take (i + 1) = H.take i ++ [H.getD i 0] := by
   rw [List.take_succ_eq_append_getElem (by omega)]
   simp [List.getD, show i < H.length by omega]
 rw [e, be32L_snoc]
 exact hO34
 omega
 obtain rfl : i = 8 := by omega
 rw [List.take_of_length_le (by omega)] at hO2 hS2 hbl
 have hbl32 : (be32L H).length = 32 := by rw [be32L_length, hHl]
 have hsv : shaV xs = be32L H := by rw [shaV, ← hal, hH, hjn]
 refine C.exit (At.thenExit (At.thenExit (At.blockSelf (At.thenCode (C.seq (C.region (W.move rfl rfl ?_)))))))
 rw [List.take_of_length_le (by omega)]
 refine W.arrayAt Tryz.underlying43 rfl (by omega) rfl ?_
 cases ao2 with
 | none => exfalso; have h1 := hS2.nil rfl; have h2 := hS2.le; omega
 | some ad2 =>
 refine W.loadA rfl (hS2.at_ ad2 rfl) Tryz.underlying43 rfl (by rw [List.length_map, hbl32]; kernel_rfl) rfl ?_
 refine W.storeA ((be32L H).map byteV) rfl rfl hB2 (by rw [List.length_map, hbl32]; rfl) (by rw [List.length_map, hbl32]; kernel_rfl) (bytes_oneCell _) ?_
 intro wz hcz hBz
 refine W.nil (At.thenCode (C.ret ?_))
 -- RESULT IN A CELL
 refine At.retC Tryz.results56 rfl (hBz.cells (o := 0)) Tryz.underlying43 rfl (by rw [List.drop_zero, List.length_map, hbl32]; kernel_rfl) ⟨?_, ?_⟩
 rw [hsv]; rfl
 exact hX1.news hcz (fun k hk => Or.inr (by omega))
end Go.Proofs.YthiijdbiikljpaaGreat.Sha
namespace Go.Proofs.YthiijdbiikljpaaGreat.Modp
open Go Go.RowKit Go.Proofs.YthiijdbiikljpaaGreat.KW
set_option linter.unusedVariables false
set_option linter.unusedSimpArgs false
set_option maxRecDepth 100000
def powP (a e : Nat) : Nat := a ^ e % 2305843009213693951
theorem powP_lt (a e : Nat) : powP a e < 2305843009213693951 := Nat.mod_lt _ (by decide)
theorem powP_zero (a : Nat) : powP a 0 = 1 := by unfold powP; simp
theorem powP_add (a e f : Nat) : powP a (e + f) = powP a e * powP a f % 2305843009213693951 := by
 unfold powP; rw [Nat.pow_add, ← Nat.mul_mod]
theorem powP_mod (a e : Nat) : powP (a % 2305843009213693951) e = powP a e := by
 unfold powP; rw [← Nat.pow_mod]
theorem powP_mul (a e f : Nat) : powP (powP a e) f = powP a (e * f) := by
 unfold powP; rw [← Nat.pow_mod, Nat.pow_mul]
theorem powP_one (a : Nat) : powP a 1 = a % 2305843009213693951 := by unfold powP; simp
theorem powP_two (a : Nat) : powP a 2 = a * a % 2305843009213693951 := by unfold powP; rw [Nat.pow_two]
theorem pow_round (out a e t : Nat) (ht : out * powP a e % 2305843009213693951 = t) :
   (e % 2 = 1 → (out * a % 2305843009213693951) * powP (a * a % 2305843009213693951) (e / 2) % 2305843009213693951 = t) ∧
   (¬ e % 2 = 1 → out * powP (a * a % 2305843009213693951) (e / 2) % 2305843009213693951 = t) := by
 subst ht
 rw [← powP_two, powP_mul]
 refine ⟨fun h => ?_, fun h => ?_⟩
 have he : e = 1 + 2 * (e / 2) := by omega
 conv => rhs; rw [he, powP_add, powP_one]
 rw [Nat.mod_mul_mod, Nat.mul_mod_mod]
 conv => rhs; rw [← Nat.mul_mod_mod, Nat.mod_mul_mod, Nat.mul_mod_mod]
 rw [Nat.mul_assoc]
 have he : e = 2 * (e / 2) := by omega
 rw [← he]
theorem pow_bit (a e i : Nat) :
   (e / 2 ^ i % 2 = 1 → (powP a (e / 2 ^ (i + 1)) * powP a (e / 2 ^ (i + 1)) % 2305843009213693951) * a % 2305843009213693951 = powP a (e / 2 ^ i)) ∧
   (¬ e / 2 ^ i % 2 = 1 → powP a (e / 2 ^ (i + 1)) * powP a (e / 2 ^ (i + 1)) % 2305843009213693951 = powP a (e / 2 ^ i)) := by
 rw [Nat.pow_succ, ← Nat.div_div_eq_div_mul]
 generalize e / 2 ^ i = q
 rw [← powP_add]
 refine ⟨fun h => ?_, fun h => ?_⟩
 have hq : q = (q / 2 + q / 2) + 1 := by omega
 conv => rhs; rw [hq, powP_add, powP_one]
 rw [Nat.mul_mod_mod]
 have hq : q = q / 2 + q / 2 := by omega
 rw [← hq]
attribute [irreducible] powP
theorem Mul64_ok (x y : Nat) (hx : x < 18446744073709551616) (hy : y < 18446744073709551616) (w : World) :
   Ct Tryz.prog 121 #[.int .u64 (x : Int), .int .u64 (y : Int)] w (fun v w' => v = .tuple #[.int .u64 ((x * y / 18446744073709551616 : Nat) : Int), .int .u64 ((x * y % 18446744073709551616 : Nat) : Int)] ∧ w = w') := by
 refine Ct.enter [(0, .int .u64 (x : Int)), (1, .int .u64 (y : Int))] Tryz.func121 rfl rfl rfl rfl ?_
 refine C.seq (C.region (W.assign rfl rfl (W.assign rfl rfl (W.nil (At.thenCode (C.seq (C.region (W.move rfl rfl ?_))))))))
 refine W.andU (M := 18446744073709551616) (n := 4294967295) rfl rfl rfl rfl rfl ?_
 refine W.assign rfl rfl (W.nil (At.thenCode (C.seq (C.region (W.move rfl rfl ?_)))))
 refine W.shrU (B := 64) (s := 32) rfl rfl rfl rfl ?_
 refine W.assign rfl rfl (W.nil (At.thenCode (C.seq (C.region (W.move rfl rfl ?_)))))
 refine W.andU (M := 18446744073709551616) (n := 4294967295) rfl rfl rfl rfl rfl ?_
 refine W.assign rfl rfl (W.nil (At.thenCode (C.seq (C.region (W.move rfl rfl ?_)))))
 refine W.shrU (B := 64) (s := 32) rfl rfl rfl rfl ?_
 refine W.assign rfl rfl (W.nil (At.thenCode (C.seq (C.region (W.move rfl rfl (W.move rfl rfl ?_))))))
 refine W.mulU (M := 18446744073709551616) rfl rfl rfl rfl rfl ?_
 refine W.assign rfl rfl (W.nil (At.thenCode (C.seq (C.region (W.move rfl rfl (W.move rfl rfl ?_))))))
 refine W.mulU (M := 18446744073709551616) rfl rfl rfl rfl rfl ?_
 refine W.move rfl rfl ?_
 refine W.shrU (B := 64) (s := 32) rfl rfl rfl rfl ?_
 refine W.addU (M := 18446744073709551616) rfl rfl rfl rfl rfl ?_
 refine W.assign rfl rfl (W.nil (At.thenCode (C.seq (C.region (W.move rfl rfl ?_)))))
 refine W.andU (M := 18446744073709551616) (n := 4294967295) rfl rfl rfl rfl rfl ?_
 refine W.assign rfl rfl (W.nil (At.thenCode (C.seq (C.region (W.move rfl rfl ?_)))))
 refine W.shrU (B := 64) (s := 32) rfl rfl rfl rfl ?_
 refine W.assign rfl rfl (W.nil (At.thenCode (C.seq (C.region (W.move rfl rfl (W.move rfl rfl (W.move rfl rfl ?_)))))))
 refine W.mulU (M := 18446744073709551616) rfl rfl rfl rfl rfl ?_
 refine W.addU (M := 18446744073709551616) rfl rfl rfl rfl rfl ?_
 refine W.assign rfl rfl (W.nil (At.thenCode (C.seq (C.region (W.move rfl rfl (W.move rfl rfl ?_))))))
 refine W.mulU (M := 18446744073709551616) rfl rfl rfl rfl rfl ?_
 refine W.move rfl rfl ?_
 refine W.addU (M := 18446744073709551616) rfl rfl rfl rfl rfl ?_
 refine W.move rfl rfl ?_
 refine W.shrU (B := 64) (s := 32) rfl rfl rfl rfl ?_
 refine W.addU (M := 18446744073709551616) rfl rfl rfl rfl rfl ?_
 refine W.assign rfl rfl (W.nil (At.thenCode (C.seq (C.region (W.move rfl rfl (W.move rfl rfl ?_))))))
 refine W.mulU (M := 18446744073709551616) rfl rfl rfl rfl rfl ?_
 refine W.assign rfl rfl (W.nil (At.thenCode (C.ret ?_)))
 refine At.ret2 Tryz.results121 rfl rfl ?_
 rw [hi_eq x y hx hy]
 exact ⟨rfl, rfl⟩
theorem Reduce_ok (x : Nat) (hx : x < 18446744073709551616) (w : World) :
   Ct Tryz.prog 118 #[.int .u64 (x : Int)] w (fun v w' => v = .int .u64 ((x % 2305843009213693951 : Nat) : Int) ∧ w = w') := by
 refine Ct.enter [(0, .int .u64 (x : Int))] Tryz.func118 rfl rfl rfl rfl ?_
 refine C.seq (C.region (W.assign rfl rfl (W.nil (At.thenCode (C.seq (C.region (W.move rfl rfl ?_)))))))
 refine W.shrU (B := 64) (s := 61) rfl rfl rfl rfl ?_
 refine W.move rfl rfl ?_
 refine W.andU (M := 18446744073709551616) (n := 2305843009213693951) rfl rfl rfl rfl rfl ?_
 refine W.addU (M := 18446744073709551616) rfl rfl rfl rfl rfl ?_
 refine W.assign rfl rfl (W.nil (At.thenCode (C.seq (C.seq (C.region (W.move rfl rfl ?_))))))
 refine W.geqU (n := 2305843009213693951) rfl rfl rfl ?_
 refine W.nil (At.thenCode ?_)
 refine C.condD rfl (fun c9 => ?_) (fun c9 => ?_)
 refine C.seq (C.region (W.move rfl rfl ?_))
 refine W.subU (M := 18446744073709551616) (n := 2305843009213693951) rfl rfl rfl rfl rfl ?_
 refine W.assign rfl rfl (W.nil (At.thenCode (C.ret (At.thenRet ?_))))
 refine At.ret1 Tryz.results118 rfl ?_
 exact ⟨by rw [(red_eq x hx).1 c9], rfl⟩
 refine C.skip (At.thenCode (C.seq (C.region (W.move rfl rfl (W.assign rfl rfl (W.nil (At.thenCode (C.ret ?_))))))))
 refine At.ret1 Tryz.results118 rfl ?_
 exact ⟨by rw [(red_eq x hx).2 c9], rfl⟩
theorem Mul_ok (a b : Nat) (ha : a < 18446744073709551616) (hb : b < 18446744073709551616) (w : World) :
   Ct Tryz.prog 119 #[.int .u64 (a : Int), .int .u64 (b : Int)] w (fun v w' => v = .int .u64 ((a * b % 2305843009213693951 : Nat) : Int) ∧ w = w') := by
 refine Ct.enter [(0, .int .u64 (a : Int)), (1, .int .u64 (b : Int))] Tryz.func119 rfl rfl rfl rfl ?_
 have h1 := mod_lt_P a
 have h2 := mod_lt_P b
 have h3 := addM_lt (M := 18446744073709551616) (by decide)
 refine C.seq (C.region (W.assign rfl rfl (W.nil (At.thenCode (C.seq (C.region (W.move rfl rfl ?_)))))))
 refine W.call Tryz.call118 rfl (Modp.Reduce_ok _ (by first | omega | exact addM_lt (by decide) _ _) _) rfl ?_
 rintro v w' ⟨rfl, rfl⟩
 refine W.move rfl rfl ?_
 refine W.call Tryz.call118 rfl (Modp.Reduce_ok _ (by first | omega | exact addM_lt (by decide) _ _) _) rfl ?_
 rintro v w' ⟨rfl, rfl⟩
 refine W.call Tryz.call121 rfl (Modp.Mul64_ok _ _ (by first | omega | decide) (by first | omega | decide) _) rfl ?_
 rintro v w' ⟨rfl, rfl⟩
 refine W.move rfl rfl (W.extract rfl rfl rfl (W.extract rfl rfl rfl (W.assign rfl rfl (W.assign rfl rfl (W.nil (At.thenCode (C.seq (C.region (W.move rfl rfl ?_)))))))))
 refine W.shlU (M := 18446744073709551616) (B := 64) (s := 3) rfl rfl rfl rfl rfl rfl ?_
 refine W.move rfl rfl ?_
 refine W.shrU (B := 64) (s := 61) rfl rfl rfl rfl ?_
 refine W.addU (M := 18446744073709551616) rfl rfl rfl rfl rfl ?_
 refine W.move rfl rfl ?_
 refine W.andU (M := 18446744073709551616) (n := 2305843009213693951) rfl rfl rfl rfl rfl ?_
 refine W.addU (M := 18446744073709551616) rfl rfl rfl rfl rfl ?_
 refine W.call Tryz.call118 rfl (Modp.Reduce_ok _ (by first | omega | exact addM_lt (by decide) _ _) _) rfl ?_
 rintro v w' ⟨rfl, rfl⟩
 refine W.assign rfl rfl (W.nil (At.thenCode (C.ret ?_)))
 refine At.ret1 Tryz.results119 rfl ?_
 rw [mulP_prog _ _ h1 h2, ← Nat.mul_mod]
 exact ⟨rfl, rfl⟩
theorem Pow_ok (a e : Nat) (ha : a < 18446744073709551616) (he : e < 18446744073709551616) (w : World) :
   Ct Tryz.prog 113 #[.int .u64 (a : Int), .int .u64 (e : Int)] w (fun v w' => v = .int .u64 ((powP a e : Nat) : Int) ∧ w = w') := by
 refine Ct.enter [(0, .int .u64 (a : Int)), (1, .int .u64 (e : Int))] Tryz.func113 rfl rfl rfl rfl ?_
 refine C.seq (C.region (W.assign rfl rfl (W.nil (At.thenCode (C.seq (C.region (W.assign rfl rfl (W.nil (At.thenCode (C.seq (C.seq ?_)))))))))))
 refine C.region (W.move rfl rfl ?_)
 refine W.call Tryz.call118 rfl (Modp.Reduce_ok _ (by first | omega | exact addM_lt (by decide) _ _) _) rfl ?_
 rintro v w' ⟨rfl, rfl⟩
 refine W.assign rfl rfl (W.nil (At.thenCode (C.block ?_)))
 refine C.loop (X := Nat × Nat × Nat) (fun x_ => [(0, .int .u64 (x_.1 : Int)), (1, .int .u64 (x_.2.1 : Int)), (5, .int .u64 (x_.2.2 : Int))]) (fun x_ w1 => w = w1 ∧ x_.1 < 2305843009213693951 ∧ x_.2.1 < 18446744073709551616 ∧ x_.2.2 < 2305843009213693951 ∧ x_.2.2 * powP x_.1 x_.2.1 % 2305843009213693951 = powP a e) (fun x_ => x_.2.1) (a % 2305843009213693951, e, 1) (sc rfl (sc rfl (sc rfl (Sub.nil)))) ?start1 ?_
 case start1 =>
   show w = _ ∧ (a % 2305843009213693951) < 2305843009213693951 ∧ (e) < 18446744073709551616 ∧ (1) < 2305843009213693951 ∧ (1) * powP (a % 2305843009213693951) (e) % 2305843009213693951 = powP a e
   exact ⟨rfl, mod_lt_P a, he, by omega, by rw [Nat.one_mul, powP_mod, Nat.mod_eq_of_lt (powP_lt _ _)]⟩
 rintro ⟨a', e', o'⟩ w1 hI_
 replace hI_ : w = w1 ∧ a' < 2305843009213693951 ∧ e' < 18446744073709551616 ∧ o' < 2305843009213693951 ∧ o' * powP a' e' % 2305843009213693951 = powP a e := hI_
 obtain ⟨rfl, ha', he', ho', hinv⟩ := hI_
 refine C.weaken (l' := [(0, .int .u64 (a' : Int)), (1, .int .u64 (e' : Int)), (5, .int .u64 (o' : Int))]) (sc rfl (sc rfl (sc rfl (Sub.nil)))) ?_
 refine C.seq (C.seq (C.region (W.move rfl rfl ?_)))
 refine W.gtrU (n := 0) rfl rfl rfl ?_
 refine W.nil (At.thenCode ?_)
 refine C.condD rfl (fun c9 => ?_) (fun c9 => ?_)
 refine C.skip (At.thenCode (C.seq (C.block (C.seq (C.seq (C.region (W.move rfl rfl ?_)))))))
 refine W.andU (M := 18446744073709551616) (n := 1) rfl rfl rfl rfl rfl ?_
 refine W.eqlU (n := 1) rfl rfl rfl ?_
 refine W.nil (At.thenCode ?_)
 refine C.condD rfl (fun c14 => ?_) (fun c14 => ?_)
 refine C.region (W.move rfl rfl (W.move rfl rfl ?_))
 refine W.call Tryz.call119 rfl (Modp.Mul_ok _ _ (by first | omega | decide) (by first | omega | decide) _) rfl ?_
 rintro v w' ⟨rfl, rfl⟩
 refine W.assign rfl rfl (W.nil (At.thenCode (C.region (W.move rfl rfl (W.move rfl rfl ?_)))))
 refine W.call Tryz.call119 rfl (Modp.Mul_ok _ _ (by first | omega | decide) (by first | omega | decide) _) rfl ?_
 rintro v w' ⟨rfl, rfl⟩
 refine W.assign rfl rfl (W.nil (At.blockNormal (At.thenCode (C.region (W.move rfl rfl ?_)))))
 refine W.shrU (B := 64) (s := 1) rfl rfl rfl rfl ?_
 refine W.assign rfl rfl (W.nil ?_)
 have hr := (pow_round o' a' e' _ hinv).1 (by rw [and1_64] at c14; exact c14)
 refine At.thenRound (a' * a' % 2305843009213693951, shrM 64 e' 1, o' * a' % 2305843009213693951) (sc rfl (sc rfl (sc rfl (Sub.nil)))) (show w = _ ∧ (a' * a' % 2305843009213693951) < 2305843009213693951 ∧ (shrM 64 e' 1) < 18446744073709551616 ∧ (o' * a' % 2305843009213693951) < 2305843009213693951 ∧ (o' * a' % 2305843009213693951) * powP (a' * a' % 2305843009213693951) (shrM 64 e' 1) % 2305843009213693951 = powP a e from ?_) (show (shrM 64 e' 1) < e' from ?_)
 rw [shr1_64]; exact ⟨rfl, mod_lt_P _, by omega, mod_lt_P _, hr⟩
 rw [shr1_64]; omega
 refine C.skip (At.thenCode (C.region (W.move rfl rfl (W.move rfl rfl ?_))))
 refine W.call Tryz.call119 rfl (Modp.Mul_ok _ _ (by first | omega | decide) (by first | omega | decide) _) rfl ?_
 rintro v w' ⟨rfl, rfl⟩
 refine W.assign rfl rfl (W.nil (At.blockNormal (At.thenCode (C.region (W.move rfl rfl ?_)))))
 refine W.shrU (B := 64) (s := 1) rfl rfl rfl rfl ?_
 refine W.assign rfl rfl (W.nil ?_)
 have hr := (pow_round o' a' e' _ hinv).2 (by rw [and1_64] at c14; exact c14)
 refine At.thenRound (a' * a' % 2305843009213693951, shrM 64 e' 1, o') (sc rfl (sc rfl (sc rfl (Sub.nil)))) (show w = _ ∧ (a' * a' % 2305843009213693951) < 2305843009213693951 ∧ (shrM 64 e' 1) < 18446744073709551616 ∧ (o') < 2305843009213693951 ∧ (o') * powP (a' * a' % 2305843009213693951) (shrM 64 e' 1) % 2305843009213693951 = powP a e from ?_) (show (shrM 64 e' 1) < e' from ?_)
 rw [shr1_64]; exact ⟨rfl, mod_lt_P _, by omega, ho', hr⟩
 rw [shr1_64]; omega
 refine C.exit (At.thenExit (At.thenExit (At.blockSelf (At.thenCode (C.seq (C.region (W.move rfl rfl (W.assign rfl rfl (W.nil (At.thenCode (C.ret ?_)))))))))))
 refine At.ret1 Tryz.results113 rfl ?_
 obtain rfl : e' = 0 := by omega
 rw [powP_zero, Nat.mul_one, Nat.mod_eq_of_lt ho'] at hinv
 exact ⟨by rw [hinv], rfl⟩
theorem wide_ok (a b : Nat) (ha : a < 18446744073709551616) (hb : b < 18446744073709551616) (w : World) :
   Ct Tryz.prog 120 #[.int .u64 (a : Int), .int .u64 (b : Int)] w (fun v w' => v = .tuple #[.int .u64 ((a * b / 18446744073709551616 : Nat) : Int), .int .u64 ((a * b % 18446744073709551616 : Nat) : Int)] ∧ w = w') := by
 refine Ct.enter [(0, .int .u64 (a : Int)), (1, .int .u64 (b : Int))] Tryz.func120 rfl rfl rfl rfl ?_
 obtain ⟨x, hx⟩ : ∃ x, x = (a % 4294967296) * (b % 4294967296) := ⟨_, rfl⟩
 obtain ⟨y, hy⟩ : ∃ y, y = (a / 4294967296) * (b % 4294967296) := ⟨_, rfl⟩
 obtain ⟨z, hz⟩ : ∃ z, z = (a % 4294967296) * (b / 4294967296) := ⟨_, rfl⟩
 obtain ⟨g1, g2, g3, g4, g5, g6⟩ := wide_eq a b ha hb x y z _ hx hy hz rfl
 refine C.seq (C.region (W.assign rfl rfl (W.assign rfl rfl (W.nil (At.thenCode (C.seq (C.region (W.assign rfl rfl ?_))))))))
 refine W.eqv (v' := .int .u64 ((4294967295 : Nat) : Int)) rfl ?_
 refine W.nil (At.thenCode (C.seq (C.region (W.move rfl rfl (W.move rfl rfl ?_)))))
 refine W.andU (M := 18446744073709551616) rfl rfl rfl rfl rfl ?_
 refine W.move rfl rfl (W.move rfl rfl ?_)
 refine W.andU (M := 18446744073709551616) rfl rfl rfl rfl rfl ?_
 refine W.mulU (M := 18446744073709551616) rfl rfl rfl rfl rfl ?_
 rw [and32_64, and32_64, mul64 (by omega), ← hx]
 refine W.assign rfl rfl (W.nil (At.thenCode (C.seq (C.region (W.move rfl rfl ?_)))))
 refine W.shrU (B := 64) (s := 32) rfl rfl rfl rfl ?_
 refine W.move rfl rfl (W.move rfl rfl ?_)
 refine W.andU (M := 18446744073709551616) rfl rfl rfl rfl rfl ?_
 refine W.mulU (M := 18446744073709551616) rfl rfl rfl rfl rfl ?_
 rw [and32_64, shr32_64, mul64 (by omega), ← hy]
 refine W.assign rfl rfl (W.nil (At.thenCode (C.seq (C.region (W.move rfl rfl (W.move rfl rfl ?_))))))
 refine W.andU (M := 18446744073709551616) rfl rfl rfl rfl rfl ?_
 refine W.move rfl rfl ?_
 refine W.shrU (B := 64) (s := 32) rfl rfl rfl rfl ?_
 refine W.mulU (M := 18446744073709551616) rfl rfl rfl rfl rfl ?_
 rw [and32_64, shr32_64, mul64 (by omega), ← hz]
 refine W.assign rfl rfl (W.nil (At.thenCode (C.seq (C.region (W.move rfl rfl ?_)))))
 refine W.shrU (B := 64) (s := 32) rfl rfl rfl rfl ?_
 refine W.move rfl rfl (W.move rfl rfl ?_)
 refine W.andU (M := 18446744073709551616) rfl rfl rfl rfl rfl ?_
 refine W.addU (M := 18446744073709551616) rfl rfl rfl rfl rfl ?_
 refine W.move rfl rfl (W.move rfl rfl ?_)
 refine W.andU (M := 18446744073709551616) rfl rfl rfl rfl rfl ?_
 refine W.addU (M := 18446744073709551616) rfl rfl rfl rfl rfl ?_
 rw [and32_64, and32_64, shr32_64, add64 (m := x / 4294967296) (by omega), add64 (by omega)]
 refine W.assign rfl rfl (W.nil (At.thenCode (C.seq (C.region (W.move rfl rfl ?_)))))
 refine W.shrU (B := 64) (s := 32) rfl rfl rfl rfl ?_
 refine W.move rfl rfl ?_
 refine W.shrU (B := 64) (s := 32) rfl rfl rfl rfl ?_
 refine W.mulU (M := 18446744073709551616) rfl rfl rfl rfl rfl ?_
 refine W.move rfl rfl ?_
 refine W.shrU (B := 64) (s := 32) rfl rfl rfl rfl ?_
 refine W.addU (M := 18446744073709551616) rfl rfl rfl rfl rfl ?_
 refine W.move rfl rfl ?_
 refine W.shrU (B := 64) (s := 32) rfl rfl rfl rfl ?_
 refine W.addU (M := 18446744073709551616) rfl rfl rfl rfl rfl ?_
 refine W.move rfl rfl ?_
 refine W.shrU (B := 64) (s := 32) rfl rfl rfl rfl ?_
 refine W.addU (M := 18446744073709551616) rfl rfl rfl rfl rfl ?_
 rw [shr32_64, shr32_64, shr32_64, shr32_64, shr32_64, mul64 (by omega), add64 (m := a / 4294967296 * (b / 4294967296)) (by omega), add64 (m := a / 4294967296 * (b / 4294967296) + y / 4294967296) (by omega), add64 (by omega), g1]
 refine W.move rfl rfl ?_
 refine W.shlU (M := 18446744073709551616) (B := 64) (s := 32) rfl rfl rfl rfl rfl rfl ?_
 refine W.move rfl rfl (W.move rfl rfl ?_)
 refine W.andU (M := 18446744073709551616) rfl rfl rfl rfl rfl ?_
 refine W.orU (M := 18446744073709551616) rfl rfl rfl rfl rfl ?_
 rw [and32_64, g2]
 refine W.assign rfl rfl (W.assign rfl rfl (W.nil (At.thenCode (C.ret ?_))))
 refine At.ret2 Tryz.results120 rfl rfl ?_
 exact ⟨rfl, rfl⟩
theorem MulP_ok (a b : Nat) (ha : a < 18446744073709551616) (hb : b < 18446744073709551616) (w : World) :
   Ct Tryz.prog 115 #[.int .u64 (a : Int), .int .u64 (b : Int)] w (fun v w' => v = .int .u64 ((a * b % 2305843009213693951 : Nat) : Int) ∧ w = w') := by
 refine Ct.enter [(0, .int .u64 (a : Int)), (1, .int .u64 (b : Int))] Tryz.func115 rfl rfl rfl rfl ?_
 have h1 := mod_lt_P a
 have h2 := mod_lt_P b
 refine C.seq (C.region (W.assign rfl rfl (W.nil (At.thenCode (C.seq (C.region (W.move rfl rfl ?_)))))))
 refine W.remU (n := 2305843009213693951) rfl rfl (by omega) rfl ?_
 refine W.move rfl rfl ?_
 refine W.remU (n := 2305843009213693951) rfl rfl (by omega) rfl ?_
 refine W.call Tryz.call120 rfl (Modp.wide_ok _ _ (by first | omega | decide) (by first | omega | decide) _) rfl ?_
 rintro v w' ⟨rfl, rfl⟩
 refine W.move rfl rfl (W.extract rfl rfl rfl (W.extract rfl rfl rfl (W.assign rfl rfl (W.assign rfl rfl (W.nil (At.thenCode (C.seq (C.region (W.move rfl rfl ?_)))))))))
 refine W.shlU (M := 18446744073709551616) (B := 64) (s := 3) rfl rfl rfl rfl rfl rfl ?_
 refine W.move rfl rfl ?_
 refine W.shrU (B := 64) (s := 61) rfl rfl rfl rfl ?_
 refine W.orU (M := 18446744073709551616) rfl rfl rfl rfl rfl ?_
 refine W.move rfl rfl ?_
 refine W.andU (M := 18446744073709551616) (n := 2305843009213693951) rfl rfl rfl rfl rfl ?_
 refine W.addU (M := 18446744073709551616) rfl rfl rfl rfl rfl ?_
 refine W.remU (n := 2305843009213693951) rfl rfl (by omega) rfl ?_
 refine W.assign rfl rfl (W.nil (At.thenCode (C.ret ?_)))
 refine At.ret1 Tryz.results115 rfl ?_
 exact ⟨by rw [mulP_ref _ _ h1 h2, ← Nat.mul_mod], rfl⟩
theorem PowP_ok (a e : Nat) (ha : a < 18446744073709551616) (he : e < 18446744073709551616) (w : World) :
   Ct Tryz.prog 105 #[.int .u64 (a : Int), .int .u64 (e : Int)] w (fun v w' => v = .int .u64 ((powP a e : Nat) : Int) ∧ w = w') := by
 refine Ct.enter [(0, .int .u64 (a : Int)), (1, .int .u64 (e : Int))] Tryz.func105 rfl rfl rfl rfl ?_
 have h1 := mod_lt_P a
 refine C.seq (C.region (W.assign rfl rfl (W.nil (At.thenCode (C.seq (C.region (W.assign rfl rfl (W.nil (At.thenCode (C.seq (C.region ?_)))))))))))
 refine W.move rfl rfl ?_
 refine W.remU (n := 2305843009213693951) rfl rfl (by omega) rfl ?_
 refine W.assign rfl rfl (W.nil (At.thenCode (C.seq (C.seq (C.region (W.assign rfl rfl (W.nil (At.thenCode (C.block ?_)))))))))
 refine C.loop (X := Int) (fun x_ => [(0, .int .u64 ((a % 2305843009213693951 : Nat) : Int)), (1, .int .u64 (e : Int)), (5, .int .u64 ((powP a (e / 2 ^ (x_ + 1).toNat) : Nat) : Int)), (6, .int .i64 x_)]) (fun x_ w1 => w = w1 ∧ -1 ≤ x_ ∧ x_ ≤ 63) (fun x_ => (x_ + 1).toNat) (63) (sc rfl (sc rfl (sc (look_eq rfl (by rw [show e / 2 ^ ((63 : Int) + 1).toNat = 0 from Nat.div_eq_of_lt he, powP_zero]; rfl)) (sc rfl (Sub.nil))))) ?start1 ?_
 case start1 =>
   show w = _ ∧ -1 ≤ (63) ∧ (63) ≤ 63
   exact ⟨rfl, by decide, by decide⟩
 rintro i w1 hI_
 replace hI_ : w = w1 ∧ -1 ≤ i ∧ i ≤ 63 := hI_
 obtain ⟨rfl, hi1, hi2⟩ := hI_
 refine C.weaken (l' := [(0, .int .u64 ((a % 2305843009213693951 : Nat) : Int)), (1, .int .u64 (e : Int)), (5, .int .u64 ((powP a (e / 2 ^ (i + 1).toNat) : Nat) : Int)), (6, .int .i64 i)]) (sc rfl (sc rfl (sc rfl (sc rfl (Sub.nil))))) ?_
 have hp := powP_lt a (e / 2 ^ (i + 1).toNat)
 refine C.seq (C.seq (C.region (W.move rfl rfl (W.geqI rfl rfl rfl (W.nil (At.thenCode ?_))))))
 refine C.condD rfl (fun c10 => ?_) (fun c10 => ?_)
 refine C.skip (At.thenCode (C.seq (C.block (C.seq (C.region (W.move rfl rfl (W.move rfl rfl ?_)))))))
 refine W.call Tryz.call115 rfl (Modp.MulP_ok _ _ (by first | omega | decide) (by first | omega | decide) _) rfl ?_
 rintro v w' ⟨rfl, rfl⟩
 refine W.assign rfl rfl (W.nil (At.thenCode (C.seq (C.region (W.move rfl rfl (W.move rfl rfl ?_))))))
 refine W.convIN (M := 18446744073709551616) rfl Tryz.underlying3 Tryz.underlying136 rfl rfl (by omega) rfl ?_
 refine W.shrU (B := 64) rfl rfl rfl rfl ?_
 refine W.andU (M := 18446744073709551616) (n := 1) rfl rfl rfl rfl rfl ?_
 refine W.eqlU (n := 1) rfl rfl rfl ?_
 refine W.nil (At.thenCode ?_)
 refine C.condD rfl (fun c21 => ?_) (fun c21 => ?_)
 refine C.region (W.move rfl rfl (W.move rfl rfl ?_))
 refine W.call Tryz.call115 rfl (Modp.MulP_ok _ _ (by first | omega | decide) (by first | omega | decide) _) rfl ?_
 rintro v w' ⟨rfl, rfl⟩
 refine W.assign rfl rfl (W.nil (At.blockNormal (At.thenCode (C.region (W.move rfl rfl ?_)))))
 refine W.subI rfl rfl (by omega) rfl ?_
 refine W.assign rfl rfl (W.nil ?_)
 have hk : (i + 1).toNat = i.toNat + 1 := by omega
 have hr := (pow_bit a e i.toNat).1 (by rw [and1_64] at c21; simpa [shrM, show min i.toNat 64 = i.toNat by omega] using c21)
 rw [← hk] at hr
 refine At.thenRound (i - 1) (sc rfl (sc rfl (sc (look_eq rfl (by rw [show (i - 1 + 1).toNat = i.toNat by omega, ← hr, Nat.mul_mod_mod])) (sc rfl (Sub.nil))))) (show w = _ ∧ -1 ≤ (i - 1) ∧ (i - 1) ≤ 63 from ?_) (show ((i - 1) + 1).toNat < (i + 1).toNat from ?_)
 exact ⟨rfl, by omega, by omega⟩
 omega
 refine C.skip (At.blockNormal (At.thenCode (C.region (W.move rfl rfl ?_))))
 refine W.subI rfl rfl (by omega) rfl ?_
 refine W.assign rfl rfl (W.nil ?_)
 have hk : (i + 1).toNat = i.toNat + 1 := by omega
 have hr := (pow_bit a e i.toNat).2 (by rw [and1_64] at c21; simpa [shrM, show min i.toNat 64 = i.toNat by omega] using c21)
 rw [← hk] at hr
 refine At.thenRound (i - 1) (sc rfl (sc rfl (sc (look_eq rfl (by rw [show (i - 1 + 1).toNat = i.toNat by omega, ← hr])) (sc rfl (Sub.nil))))) (show w = _ ∧ -1 ≤ (i - 1) ∧ (i - 1) ≤ 63 from ?_) (show ((i - 1) + 1).toNat < (i + 1).toNat from ?_)
 exact ⟨rfl, by omega, by omega⟩
 omega
 refine C.exit (At.thenExit (At.thenExit (At.blockSelf (At.thenCode (C.seq (C.region (W.move rfl rfl (W.assign rfl rfl (W.nil (At.thenCode (C.ret ?_)))))))))))
 refine At.ret1 Tryz.results105 rfl ?_
 obtain rfl : i = -1 := by omega
 exact ⟨by simp, rfl⟩
end Go.Proofs.YthiijdbiikljpaaGreat.Modp
namespace Go.Proofs.YthiijdbiikljpaaGreat.Modn
open Go Go.RowKit Go.Proofs.YthiijdbiikljpaaGreat.KW
set_option linter.unusedVariables false
set_option linter.unusedSimpArgs false
set_option maxRecDepth 100000
end Go.Proofs.YthiijdbiikljpaaGreat.Modn
namespace Go.Proofs.YthiijdbiikljpaaGreat.Grp
open Go Go.RowKit Go.Proofs.YthiijdbiikljpaaGreat.KW Go.Proofs.YthiijdbiikljpaaGreat.Words Go.Proofs.YthiijdbiikljpaaGreat.Modp
set_option linter.unusedVariables false
set_option linter.unusedSimpArgs false
set_option maxRecDepth 100000
def timesV (x e : Nat) : Nat := if Rt x then powP x e else 0
def prodG : Nat → List Nat → Nat
  | a, [] => a
  | a, x :: r => if Rt x then prodG (a * x % 2305843009213693951) r else 0
theorem Times_ok (x e : Nat) (he : e < 18446744073709551616) (w : World) :
   Ct Tryz.prog 102 #[.int .u64 (x : Int), .int .u64 (e : Int)] w (fun v w' => v = .int .u64 ((timesV x e : Nat) : Int) ∧ w = w') := by
 refine Ct.enter [(0, .int .u64 (x : Int)), (1, .int .u64 (e : Int))] Tryz.func102 rfl rfl rfl rfl ?_
 refine C.seq (C.region (W.assign rfl rfl (W.nil (At.thenCode (C.seq (C.seq (C.region (W.move rfl rfl ?_))))))))
 refine W.call Tryz.call112 rfl (Grp.Right_ok _ _) rfl ?_
 rintro v w' ⟨rfl, rfl⟩
 refine W.notD rfl rfl ?_
 refine W.nil (At.thenCode ?_)
 refine C.condD rfl (fun c7 => ?_) (fun c7 => ?_)
 refine C.seq (C.region (W.assign rfl rfl (W.nil (At.thenCode (C.ret (At.thenRet ?_))))))
 refine At.ret1 Tryz.results102 rfl ?_
 exact ⟨by rw [timesV, if_neg c7]; rfl, rfl⟩
 refine C.skip (At.thenCode (C.seq (C.region (W.move rfl rfl (W.move rfl rfl ?_)))))
 refine W.call Tryz.call113 rfl (Modp.Pow_ok _ _ (by first | omega | decide) (by first | omega | decide) _) rfl ?_
 rintro v w' ⟨rfl, rfl⟩
 refine W.assign rfl rfl (W.nil (At.thenCode (C.ret ?_)))
 refine At.ret1 Tryz.results102 rfl ?_
 exact ⟨by rw [timesV, if_pos (by omega)], rfl⟩
theorem RTimes_ok (x e : Nat) (he : e < 18446744073709551616) (w : World) :
   Ct Tryz.prog 74 #[.int .u64 (x : Int), .int .u64 (e : Int)] w (fun v w' => v = .int .u64 ((timesV x e : Nat) : Int) ∧ w = w') := by
 refine Ct.enter [(0, .int .u64 (x : Int)), (1, .int .u64 (e : Int))] Tryz.func74 rfl rfl rfl rfl ?_
 refine C.seq (C.region (W.assign rfl rfl (W.nil (At.thenCode (C.seq (C.seq (C.region (W.move rfl rfl ?_))))))))
 refine W.call Tryz.call104 rfl (Grp.RRight_ok _ _) rfl ?_
 rintro v w' ⟨rfl, rfl⟩
 refine W.notD rfl rfl ?_
 refine W.nil (At.thenCode ?_)
 refine C.condD rfl (fun c7 => ?_) (fun c7 => ?_)
 refine C.seq (C.region (W.assign rfl rfl (W.nil (At.thenCode (C.ret (At.thenRet ?_))))))
 refine At.ret1 Tryz.results74 rfl ?_
 exact ⟨by rw [timesV, if_neg c7]; rfl, rfl⟩
 refine C.skip (At.thenCode (C.seq (C.region (W.move rfl rfl (W.move rfl rfl ?_)))))
 refine W.call Tryz.call105 rfl (Modp.PowP_ok _ _ (by first | omega | decide) (by first | omega | decide) _) rfl ?_
 rintro v w' ⟨rfl, rfl⟩
 refine W.assign rfl rfl (W.nil (At.thenCode (C.ret ?_)))
 refine At.ret1 Tryz.results74 rfl ?_
 exact ⟨by rw [timesV, if_pos (by omega)], rfl⟩
theorem Base_ok (e : Nat) (he : e < 18446744073709551616) (w : World) :
   Ct Tryz.prog 65 #[.int .u64 (e : Int)] w (fun v w' => v = .int .u64 ((timesV 37 e : Nat) : Int) ∧ w = w') := by
 refine Ct.enter [(0, .int .u64 (e : Int))] Tryz.func65 rfl rfl rfl rfl ?_
 refine C.seq (C.region (W.assign rfl rfl (W.nil (At.thenCode (C.seq (C.region (W.move rfl rfl ?_)))))))
 refine W.call Tryz.call102 rfl (Times_ok 37 _ he _) rfl ?_
 rintro v w' ⟨rfl, rfl⟩
 refine W.assign rfl rfl (W.nil (At.thenCode (C.ret ?_)))
 refine At.ret1 Tryz.results65 rfl ?_
 exact ⟨rfl, rfl⟩
theorem RBase_ok (e : Nat) (he : e < 18446744073709551616) (w : World) :
   Ct Tryz.prog 40 #[.int .u64 (e : Int)] w (fun v w' => v = .int .u64 ((timesV 37 e : Nat) : Int) ∧ w = w') := by
 refine Ct.enter [(0, .int .u64 (e : Int))] Tryz.func40 rfl rfl rfl rfl ?_
 refine C.seq (C.region (W.assign rfl rfl (W.nil (At.thenCode (C.seq (C.region (W.move rfl rfl ?_)))))))
 refine W.call Tryz.call74 rfl (RTimes_ok 37 _ he _) rfl ?_
 rintro v w' ⟨rfl, rfl⟩
 refine W.assign rfl rfl (W.nil (At.thenCode (C.ret ?_)))
 refine At.ret1 Tryz.results40 rfl ?_
 exact ⟨rfl, rfl⟩
end Go.Proofs.YthiijdbiikljpaaGreat.Grp
