/- The walks of package words and of the reference's functions of chapter 1, and what they compute as plain functions on lists of bytes. -/
import Derived.Test.YtnldohjhjoldaaaProg
import Derived.Test.YtnldohjhjoldaaaKs
import Derived.Test.YtnldohjhjoldaaaNa
namespace Go.Proofs.Ytnldohjhjoldaaa.Words
open Go Go.RowKit Go.Proofs.Ytnldohjhjoldaaa.KW
set_option linter.unusedVariables false
set_option linter.unusedSimpArgs false
set_option maxRecDepth 100000

/-- The element type byte. -/
theorem E8 : Elem Try.prog 5 1 1 (.int .u8 0) := Elem.of (by kernel_rfl) rfl rfl

theorem X8 : Elem Try.prog 5 1 1 (.int .u8 0) := E8
theorem X32 : Elem Try.prog 71 1 4 (.int .u32 0) := Elem.of (by kernel_rfl) rfl rfl
theorem XI : Elem Try.prog 3 1 8 (.int .i64 0) := Elem.of (by kernel_rfl) rfl rfl
def u32V (n : Nat) : Value := .int .u32 (n : Int)
theorem u32_oneCell (l : List Nat) : ∀ u ∈ l.map u32V, u.oneCell' = true := by
  intro u hu
  obtain ⟨_, _, rfl⟩ := List.mem_map.1 hu
  rfl

/-! ### Plain -/
/-- 4 bytes, 8 bytes of a number, the greatest first. -/
def be32 (x : Nat) : List UInt8 := [UInt8.ofNat (x / 16777216), UInt8.ofNat (x / 65536), UInt8.ofNat (x / 256), UInt8.ofNat x]
def be64 (x : Nat) : List UInt8 := be32 (x / 4294967296 % 4294967296) ++ be32 (x % 4294967296)
def beNat (l : List UInt8) : Nat := l.foldl (fun x b => x * 256 + b.toNat) 0
theorem be32_length (x : Nat) : (be32 x).length = 4 := rfl
theorem be64_length (x : Nat) : (be64 x).length = 8 := rfl
theorem beNat_snoc (l : List UInt8) (b : UInt8) : beNat (l ++ [b]) = beNat l * 256 + b.toNat := by simp [beNat]
theorem beNat_lt : ∀ (l : List UInt8) (k : Nat), l.length = k → beNat l < 256 ^ k := by
  intro l k
  induction k generalizing l with
  | zero => intro h; have : l = [] := List.eq_nil_of_length_eq_zero h; subst this; decide
  | succ k ih =>
    intro h
    have hne : l ≠ [] := fun e => by subst e; simp at h
    obtain ⟨r, b, rfl⟩ : ∃ r b, l = r ++ [b] := ⟨l.dropLast, l.getLast hne, (List.dropLast_concat_getLast hne).symm⟩
    have h1 := ih r (by simpa using h)
    have h2 := UInt8.toNat_lt b
    rw [beNat_snoc, Nat.pow_succ]
    omega
theorem ofNat_toNat (n : Nat) : (UInt8.ofNat n).toNat = n % 256 := by simp
theorem byteV_ofNat (n : Nat) : byteV (UInt8.ofNat n) = .int .u8 ((n % 256 : Nat) : Int) := by unfold byteV; rw [ofNat_toNat]
theorem beNat_be32 (x : Nat) (h : x < 4294967296) : beNat (be32 x) = x := by
  simp only [beNat, be32, List.foldl_cons, List.foldl_nil, ofNat_toNat]
  omega
theorem beNat_be64 (x : Nat) (h : x < 18446744073709551616) : beNat (be64 x) = x := by
  simp only [beNat, be64, be32, List.foldl_cons, List.foldl_nil, List.cons_append, List.nil_append, ofNat_toNat]
  omega

/-- Why there is no number of n bytes at a place (0: there is one), and the number. -/
def getE (xs : List UInt8) (at_ : Int) (n : Nat) : Int := if at_ < 0 ∨ (xs.length : Int) < at_ then 1 else if (xs.length : Int) - at_ < n then 4 else 0
def getV (xs : List UInt8) (at_ : Int) (n : Nat) : Nat := if getE xs at_ n = 0 then beNat ((xs.drop at_.toNat).take n) else 0
theorem getE_0 {xs : List UInt8} {at_ : Int} {n : Nat} : getE xs at_ n = 0 ↔ 0 ≤ at_ ∧ at_ + n ≤ xs.length := by
  unfold getE
  split
  · rename_i h; constructor
    · intro c; omega
    · intro c; omega
  · rename_i h
    split
    · constructor
      · intro c; omega
      · intro c; omega
    · constructor
      · intro c; omega
      · intro c; rfl
theorem getV_lt (xs : List UInt8) (at_ : Int) (n : Nat) : getV xs at_ n < 256 ^ n := by
  unfold getV
  split
  · rename_i h
    rw [getE_0] at h
    exact beNat_lt _ n (by rw [List.length_take, List.length_drop]; omega)
  · exact Nat.pow_pos (by decide)

/-- One byte more in the loops. -/
theorem get_step {xs : List UInt8} {at_ i n : Nat} (h : at_ + i < xs.length) (hi : i < n) (hn : n ≤ 8) :
    iorM 18446744073709551616 (shlM 18446744073709551616 64 (beNat ((xs.drop at_).take i)) 8) ((xs[at_ + i]'h).toNat) = beNat ((xs.drop at_).take (i + 1)) := by
  have hl : ((xs.drop at_).take i).length = i := by rw [List.length_take, List.length_drop]; omega
  have h1 := beNat_lt _ i hl
  have h2 : (256 : Nat) ^ i ≤ 256 ^ 7 := Nat.pow_le_pow_right (by decide) (by omega)
  have h3 := UInt8.toNat_lt (xs[at_ + i]'h)
  have e7 : (256 : Nat) ^ 7 = 72057594037927936 := by decide
  have e : (xs.drop at_).take (i + 1) = (xs.drop at_).take i ++ [xs[at_ + i]'h] := by
    rw [List.take_succ_eq_append_getElem (by rw [List.length_drop]; omega), List.getElem_drop]
  rw [e, beNat_snoc]
  generalize beNat ((xs.drop at_).take i) = q at *
  have hs : shlM 18446744073709551616 64 q 8 = q * 2 ^ 8 := by
    unfold shlM; rw [show min 8 64 = 8 from rfl, Nat.mod_eq_of_lt]; omega
  rw [hs, iorM, or_low _ _ 8 (by omega), Nat.mod_eq_of_lt (by omega)]

/-! ### Walks -/




theorem land255 (x : Nat) : landM 4294967296 x 255 % 256 = x % 256 := by
  rw [landM, show 255 = 2 ^ 8 - 1 from rfl, Nat.and_two_pow_sub_one_eq_mod]
  omega
theorem land32 (x : Nat) : landM 18446744073709551616 x 4294967295 % 4294967296 = x % 4294967296 := by
  rw [landM, show 4294967295 = 2 ^ 32 - 1 from rfl, Nat.and_two_pow_sub_one_eq_mod]
  omega







/-! ### Turning -/
def turnK (n : Int) : Nat := (n % 32).toNat
def rotV (x : Nat) (n : Int) : Nat := iorM 4294967296 (shrM 32 x (turnK n)) (shlM 4294967296 32 x ((32 - turnK n) % 32))
theorem turnK_lt (n : Int) : turnK n < 32 := by unfold turnK; omega
theorem rotV_lt (x : Nat) (n : Int) : rotV x n < 4294967296 := by unfold rotV iorM; omega
theorem and31 (m : Nat) : landM 18446744073709551616 m 31 = m % 32 := by
  rw [landM, show 31 = 2 ^ 5 - 1 from rfl, Nat.and_two_pow_sub_one_eq_mod]; omega
theorem turnK_iu (n : Int) : landM 18446744073709551616 (iu 18446744073709551616 n) 31 = turnK n := by
  rw [and31]; unfold iu turnK; omega
theorem turnK_back (n : Int) : landM 18446744073709551616 (subM 18446744073709551616 32 (turnK n)) 31 = (32 - turnK n) % 32 := by
  have := turnK_lt n
  rw [and31]; unfold subM; omega
theorem bit_high {x i : Nat} (h : x < 4294967296) (hi : 32 ≤ i) : x.testBit i = false := by
  apply Nat.testBit_lt_two_pow
  have : (2 : Nat) ^ 32 ≤ 2 ^ i := Nat.pow_le_pow_right (by decide) hi
  omega
theorem rotV_bit {x : Nat} (h : x < 4294967296) (n : Int) {i : Nat} (hi : i < 32) : (rotV x n).testBit i = x.testBit ((i + turnK n) % 32) := by
  have hk := turnK_lt n
  unfold rotV iorM shrM shlM
  generalize turnK n = k at *
  rw [show (4294967296 : Nat) = 2 ^ 32 from rfl, Nat.testBit_mod_two_pow, Nat.testBit_or, Nat.testBit_div_two_pow, Nat.testBit_mod_two_pow, Nat.testBit_mul_two_pow]
  simp only [hi, decide_true, Bool.true_and]
  rw [show min k 32 = k by omega, show min ((32 - k) % 32) 32 = (32 - k) % 32 by omega]
  by_cases hk0 : k = 0
  · subst hk0
    simp [Nat.mod_eq_of_lt hi]
  · rw [Nat.mod_eq_of_lt (show 32 - k < 32 by omega)]
    by_cases hs : i + k < 32
    · rw [Nat.mod_eq_of_lt hs, decide_eq_false (show ¬ (32 - k ≤ i) by omega)]
      simp
    · rw [show (i + k) % 32 = i - (32 - k) by omega, bit_high h (show 32 ≤ i + k by omega), decide_eq_true (show 32 - k ≤ i by omega)]
      simp
theorem bit_and (r i : Nat) (hi : i < 32) : landM 4294967296 (shrM 32 r i) 1 = (r.testBit i).toNat := by
  rw [landM, shrM, show min i 32 = i by omega, show (1 : Nat) = 2 ^ 1 - 1 from rfl, Nat.and_two_pow_sub_one_eq_mod, Nat.testBit_eq_decide_div_mod_eq]
  have : r / 2 ^ i % 2 < 2 := Nat.mod_lt _ (by decide)
  by_cases hb : r / 2 ^ i % 2 = 1
  · simp [hb]
  · have : r / 2 ^ i % 2 = 0 := by omega
    simp [this]
theorem rotV_zero {x : Nat} (h : x < 4294967296) {n : Int} (hk : turnK n = 0) : rotV x n = x := by
  apply Nat.eq_of_testBit_eq
  intro i
  by_cases hi : i < 32
  · rw [rotV_bit h n hi, hk, Nat.add_zero, Nat.mod_eq_of_lt hi]
  · rw [bit_high (rotV_lt x n) (by omega), bit_high h (by omega)]
theorem rotV_rotV {x : Nat} (h : x < 4294967296) (n m : Int) : rotV (rotV x n) m = rotV x (n + m) := by
  apply Nat.eq_of_testBit_eq
  intro i
  by_cases hi : i < 32
  · rw [rotV_bit (rotV_lt x n) m hi, rotV_bit h n (by omega), rotV_bit h (n + m) hi]
    congr 1
    unfold turnK
    omega
  · rw [bit_high (rotV_lt _ m) (by omega), bit_high (rotV_lt _ _) (by omega)]



/-! ### Narrowing -/
def narA (a n : Int) (s : Bool) : Int := if s = true ∧ a / 2 ≤ n % a then n % a - a else n % a
def narE (b : Int) : Int := if b = 8 ∨ b = 16 ∨ b = 32 ∨ b = 64 then 0 else 1
def narV (n b : Int) (s : Bool) : Int := if b = 8 then narA 256 n s else if b = 16 then narA 65536 n s else if b = 32 then narA 4294967296 n s else if b = 64 then n else 0


theorem wrap8 (n : Int) : IntKind.i64.wrap (IntKind.i8.wrap n) = narA 256 n true := by
  unfold narA
  simp [IntKind.wrap, IntKind.bits, IntKind.signed]
  split <;> split <;> omega
theorem wrap16 (n : Int) : IntKind.i64.wrap (IntKind.i16.wrap n) = narA 65536 n true := by
  unfold narA
  simp [IntKind.wrap, IntKind.bits, IntKind.signed]
  split <;> split <;> omega
theorem wrap32 (n : Int) : IntKind.i64.wrap (IntKind.i32.wrap n) = narA 4294967296 n true := by
  unfold narA
  simp [IntKind.wrap, IntKind.bits, IntKind.signed]
  split <;> split <;> omega

theorem tmod_cases (n a : Int) (h : 0 < a) : (n.tmod a = n % a ∧ 0 ≤ n) ∨ (n < 0 ∧ n.tmod a = n % a - a ∧ n % a ≠ 0) ∨ (n < 0 ∧ n.tmod a = 0 ∧ n % a = 0) := by
  rw [Int.tmod_eq_emod]
  by_cases h0 : 0 ≤ n
  · left; rw [if_pos (Or.inl h0)]; omega
  · right
    by_cases hd : a ∣ n
    · right; rw [if_pos (Or.inr hd), Int.emod_eq_zero_of_dvd hd]; omega
    · left
      rw [if_neg (by rintro (h1 | h1); exact h0 h1; exact hd h1)]
      refine ⟨by omega, ?_, fun hc => hd (Int.dvd_of_emod_eq_zero hc)⟩
      omega
/-- What the three widths come to. -/
theorem narV_of {n b a : Int} {s : Bool} (hb : (b = 8 ∧ a = 256) ∨ (b = 16 ∧ a = 65536) ∨ (b = 32 ∧ a = 4294967296)) : narV n b s = narA a n s ∧ narE b = 0 := by
  rcases hb with ⟨rfl, rfl⟩ | ⟨rfl, rfl⟩ | ⟨rfl, rfl⟩ <;> exact ⟨rfl, rfl⟩
theorem narA_true {a n : Int} (h : a / 2 ≤ n % a) : narA a n true = n % a - a := by unfold narA; rw [if_pos ⟨rfl, h⟩]
theorem narA_low {a n : Int} {s : Bool} (h : n % a < a / 2) : narA a n s = n % a := by unfold narA; rw [if_neg]; omega
theorem narA_false {a n : Int} : narA a n false = n % a := by unfold narA; rw [if_neg]; simp
theorem narA_range {a n : Int} {s : Bool} (h : a = 256 ∨ a = 65536 ∨ a = 4294967296) : (-4294967296 ≤ narA a n s ∧ narA a n s ≤ 4294967296) ∧ narA a n s % a = n % a ∧ narA a (narA a n s) s = narA a n s ∧ (n - narA a n s) % a = 0 := by
  unfold narA
  rcases h with rfl | rfl | rfl <;> cases s <;> simp <;> (repeat' split) <;> omega

end Go.Proofs.Ytnldohjhjoldaaa.Words
