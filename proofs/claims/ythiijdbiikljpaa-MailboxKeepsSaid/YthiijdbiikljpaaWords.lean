/- The walks of package words and of the reference's functions of chapter 1, and what they compute as plain functions on lists of bytes. -/
import Derived.Test.YthiijdbiikljpaaProg
import Derived.Test.YthiijdbiikljpaaKs
import Derived.Test.YthiijdbiikljpaaNa
namespace Go.Proofs.Ythiijdbiikljpaa.Words
open Go Go.RowKit Go.Proofs.Ythiijdbiikljpaa.KW
set_option linter.unusedVariables false
set_option linter.unusedSimpArgs false
set_option maxRecDepth 100000

/-- The element type byte. -/
theorem E8 : Elem Try.prog 5 1 1 (.int .u8 0) := Elem.of (by kernel_rfl) rfl rfl

theorem X8 : Elem Try.prog 5 1 1 (.int .u8 0) := E8
theorem X32 : Elem Try.prog 90 1 4 (.int .u32 0) := Elem.of (by kernel_rfl) rfl rfl
theorem X64 : Elem Try.prog 41 1 8 (.int .u64 0) := Elem.of (by kernel_rfl) rfl rfl
theorem XI : Elem Try.prog 3 1 8 (.int .i64 0) := Elem.of (by kernel_rfl) rfl rfl
def u32V (n : Nat) : Value := .int .u32 (n : Int)
theorem u32_oneCell (l : List Nat) : ∀ u ∈ l.map u32V, u.oneCell' = true := by
  intro u hu
  obtain ⟨_, _, rfl⟩ := List.mem_map.1 hu
  rfl

/-! ### Plain -/
/-- 4 bytes, 8 bytes of a number, the greatest first. -/
def be32 (x : Nat) : List UInt8 := [UInt8.ofNat (x / 16777216), UInt8.ofNat (x / 65536), UInt8.ofNat (x / 256), UInt8.ofNat x]
def be64 (x : Nat) : List UInt8 := be32 (x / 4294967296 % 4294967296) ++ be32 (x % 4294967296)
def beNat (l : List UInt8) : Nat := l.foldl (fun x b => x * 256 + b.toNat) 0
theorem be32_length (x : Nat) : (be32 x).length = 4 := rfl
theorem be64_length (x : Nat) : (be64 x).length = 8 := rfl
theorem beNat_snoc (l : List UInt8) (b : UInt8) : beNat (l ++ [b]) = beNat l * 256 + b.toNat := by simp [beNat]
theorem beNat_lt : ∀ (l : List UInt8) (k : Nat), l.length = k → beNat l < 256 ^ k := by
  intro l k
  induction k generalizing l with
  | zero => intro h; have : l = [] := List.eq_nil_of_length_eq_zero h; subst this; decide
  | succ k ih =>
    intro h
    have hne : l ≠ [] := fun e => by subst e; simp at h
    obtain ⟨r, b, rfl⟩ : ∃ r b, l = r ++ [b] := ⟨l.dropLast, l.getLast hne, (List.dropLast_concat_getLast hne).symm⟩
    have h1 := ih r (by simpa using h)
    have h2 := UInt8.toNat_lt b
    rw [beNat_snoc, Nat.pow_succ]
    omega
theorem ofNat_toNat (n : Nat) : (UInt8.ofNat n).toNat = n % 256 := by simp
theorem byteV_ofNat (n : Nat) : byteV (UInt8.ofNat n) = .int .u8 ((n % 256 : Nat) : Int) := by unfold byteV; rw [ofNat_toNat]
theorem beNat_be32 (x : Nat) (h : x < 4294967296) : beNat (be32 x) = x := by
  simp only [beNat, be32, List.foldl_cons, List.foldl_nil, ofNat_toNat]
  omega
theorem beNat_be64 (x : Nat) (h : x < 18446744073709551616) : beNat (be64 x) = x := by
  simp only [beNat, be64, be32, List.foldl_cons, List.foldl_nil, List.cons_append, List.nil_append, ofNat_toNat]
  omega

/-- Why there is no number of n bytes at a place (0: there is one), and the number. -/
def getE (xs : List UInt8) (at_ : Int) (n : Nat) : Int := if at_ < 0 ∨ (xs.length : Int) < at_ then 1 else if (xs.length : Int) - at_ < n then 4 else 0
def getV (xs : List UInt8) (at_ : Int) (n : Nat) : Nat := if getE xs at_ n = 0 then beNat ((xs.drop at_.toNat).take n) else 0
theorem getE_0 {xs : List UInt8} {at_ : Int} {n : Nat} : getE xs at_ n = 0 ↔ 0 ≤ at_ ∧ at_ + n ≤ xs.length := by
  unfold getE
  split
  · rename_i h; constructor
    · intro c; omega
    · intro c; omega
  · rename_i h
    split
    · constructor
      · intro c; omega
      · intro c; omega
    · constructor
      · intro c; omega
      · intro c; rfl
theorem getV_lt (xs : List UInt8) (at_ : Int) (n : Nat) : getV xs at_ n < 256 ^ n := by
  unfold getV
  split
  · rename_i h
    rw [getE_0] at h
    exact beNat_lt _ n (by rw [List.length_take, List.length_drop]; omega)
  · exact Nat.pow_pos (by decide)

/-- One byte more in the loops. -/
theorem get_step {xs : List UInt8} {at_ i n : Nat} (h : at_ + i < xs.length) (hi : i < n) (hn : n ≤ 8) :
    iorM 18446744073709551616 (shlM 18446744073709551616 64 (beNat ((xs.drop at_).take i)) 8) ((xs[at_ + i]'h).toNat) = beNat ((xs.drop at_).take (i + 1)) := by
  have hl : ((xs.drop at_).take i).length = i := by rw [List.length_take, List.length_drop]; omega
  have h1 := beNat_lt _ i hl
  have h2 : (256 : Nat) ^ i ≤ 256 ^ 7 := Nat.pow_le_pow_right (by decide) (by omega)
  have h3 := UInt8.toNat_lt (xs[at_ + i]'h)
  have e7 : (256 : Nat) ^ 7 = 72057594037927936 := by decide
  have e : (xs.drop at_).take (i + 1) = (xs.drop at_).take i ++ [xs[at_ + i]'h] := by
    rw [List.take_succ_eq_append_getElem (by rw [List.length_drop]; omega), List.getElem_drop]
  rw [e, beNat_snoc]
  generalize beNat ((xs.drop at_).take i) = q at *
  have hs : shlM 18446744073709551616 64 q 8 = q * 2 ^ 8 := by
    unfold shlM; rw [show min 8 64 = 8 from rfl, Nat.mod_eq_of_lt]; omega
  rw [hs, iorM, or_low _ _ 8 (by omega), Nat.mod_eq_of_lt (by omega)]

/-! ### Walks -/
theorem get_ok (ao : Option Addr) (c : Nat) (xs : List UInt8) (at_ : Int) (n : Nat) (w : World) (hS : Bs w ao c xs) (hlen : xs.length ≤ 1099511627776) (hat : -9223372036854775808 ≤ at_ ∧ at_ ≤ 9223372036854775807) (hn : n ≤ 8) :
    Ct Try.prog 64 #[.slice ao xs.length c, .int .i64 at_, .int .i64 (n : Int)] w (fun v w' => v = .tuple #[.int .u64 ((getV xs at_ n : Nat) : Int), .int .i64 (getE xs at_ n)] ∧ w = w') := by
  refine Ct.enter [(0, .slice ao xs.length c), (1, .int .i64 at_), (2, .int .i64 (n : Int))] Try.func64 rfl rfl rfl rfl ?_
  refine C.seq ?_
  refine C.region ?_
  refine W.assign rfl rfl ?_
  refine W.assign rfl rfl ?_
  refine W.nil ?_
  refine At.thenCode ?_
  refine C.seq ?_
  refine C.seq ?_
  refine C.region ?_
  refine W.move rfl rfl ?_
  refine W.lssI rfl rfl rfl ?_
  refine W.move rfl rfl ?_
  first | refine W.splitD (fun g13 => ?_) (fun g13 => ?_) | refine W.splitB (fun g13 => ?_) (fun g13 => ?_)
  · refine W.skips rfl rfl rfl rfl rfl rfl ?_
    refine W.skips rfl rfl rfl rfl rfl rfl ?_
    refine W.skips rfl rfl rfl rfl rfl rfl ?_
    refine W.skips rfl rfl rfl rfl rfl rfl ?_
    refine W.pickT rfl rfl rfl ?_
    refine W.nil ?_
    refine At.thenCode ?_
    refine C.condT rfl ?_
    refine C.seq ?_
    refine C.region ?_
    refine W.assign rfl rfl ?_
    refine W.assign rfl rfl ?_
    refine W.nil ?_
    refine At.thenCode ?_
    refine C.ret ?_
    refine At.thenRet ?_
    refine At.ret2 Try.results64 rfl rfl ?_
    have e : getE xs at_ n = 1 := by unfold getE; rw [if_pos (Or.inl g13)]
    exact ⟨by rw [getV, if_neg (by omega), e]; rfl, rfl⟩
  · refine W.wants rfl rfl rfl rfl ?_
    refine W.move rfl rfl ?_
    refine W.wants rfl rfl rfl rfl ?_
    refine W.move rfl rfl ?_
    refine W.wants rfl rfl rfl rfl ?_
    refine W.lenS rfl Try.underlying51 rfl ?_
    refine W.wants rfl rfl rfl rfl ?_
    refine W.gtrI rfl rfl rfl ?_
    refine W.pickF rfl rfl rfl ?_
    refine W.nil ?_
    refine At.thenCode ?_
    first | refine C.condD rfl (fun c18 => ?_) (fun c18 => ?_) | refine C.cond rfl (fun c18 => ?_) (fun c18 => ?_)
    · refine C.seq ?_
      refine C.region ?_
      refine W.assign rfl rfl ?_
      refine W.assign rfl rfl ?_
      refine W.nil ?_
      refine At.thenCode ?_
      refine C.ret ?_
      refine At.thenRet ?_
      refine At.ret2 Try.results64 rfl rfl ?_
      have e : getE xs at_ n = 1 := by unfold getE; rw [if_pos (Or.inr c18)]
      exact ⟨by rw [getV, if_neg (by omega), e]; rfl, rfl⟩
    · refine C.skip ?_
      refine At.thenCode ?_
      refine C.seq ?_
      refine C.seq ?_
      refine C.region ?_
      refine W.move rfl rfl ?_
      refine W.lenS rfl Try.underlying51 rfl ?_
      refine W.move rfl rfl ?_
      first | refine W.subI rfl rfl (by omega) rfl ?_ | refine W.subW rfl rfl rfl ?_
      refine W.move rfl rfl ?_
      refine W.lssI rfl rfl rfl ?_
      refine W.nil ?_
      refine At.thenCode ?_
      first | refine C.condD rfl (fun c24 => ?_) (fun c24 => ?_) | refine C.cond rfl (fun c24 => ?_) (fun c24 => ?_)
      · refine C.seq ?_
        refine C.region ?_
        refine W.assign rfl rfl ?_
        refine W.assign rfl rfl ?_
        refine W.nil ?_
        refine At.thenCode ?_
        refine C.ret ?_
        refine At.thenRet ?_
        refine At.ret2 Try.results64 rfl rfl ?_
        have e : getE xs at_ n = 4 := by unfold getE; rw [if_neg (by omega), if_pos c24]
        exact ⟨by rw [getV, if_neg (by omega), e]; rfl, rfl⟩
      · refine C.skip ?_
        refine At.thenCode ?_
        refine C.seq ?_
        refine C.region ?_
        refine W.assign rfl rfl ?_
        refine W.nil ?_
        refine At.thenCode ?_
        refine C.seq ?_
        refine C.seq ?_
        refine C.region ?_
        refine W.move rfl rfl ?_
        refine W.move rfl rfl ?_
        refine W.move rfl rfl ?_
        refine W.move rfl rfl ?_
        first | refine W.addI rfl rfl (by omega) rfl ?_ | refine W.addW rfl rfl rfl ?_
        have e0 : getE xs at_ n = 0 := getE_0.2 (by omega)
        have h1 : (at_.toNat : Int) = at_ := by omega
        refine W.slice (lo := at_.toNat) (hi := at_.toNat + n) E8 Try.underlying51 rfl hS (.inr ⟨_, _, rfl, look_eq rfl (by rw [h1])⟩) (.inr ⟨_, _, rfl, look_eq rfl (by rw [show at_ + (n : Int) = ((at_.toNat + n : Nat) : Int) by omega])⟩) (by omega) (by omega) rfl ?_
        intro ao2 c2 hS2 _
        rw [show at_.toNat + n - at_.toNat = n by omega, Nat.mul_one, Nat.mul_one, ← List.map_drop, ← List.map_take] at hS2
        rw [show at_.toNat + n - at_.toNat = n by omega]
        refine W.lenS rfl Try.underlying51 rfl ?_
        refine W.move rfl rfl ?_
        refine W.nil ?_
        refine At.thenCode ?_
        refine C.block ?_
        refine C.loop (X := Nat) (fun x_ => [(8, .int .u64 ((beNat ((xs.drop at_.toNat).take x_) : Nat) : Int)), (30, .slice ao2 n c2), (31, .int .i64 (n : Int)), (32, .int .i64 (x_ : Int))]) (fun x_ w1 => w = w1 ∧ x_ ≤ n) (fun x_ => n - x_) (0) (Sub.cons (rfl) (Sub.cons (rfl) (Sub.cons (rfl) (Sub.cons (rfl) (Sub.nil))))) ?start1 ?_
        case start1 =>
          show w = _ ∧ (0) ≤ n
          exact ⟨rfl, by omega⟩
        rintro i w1 hI_
        replace hI_ : w = w1 ∧ i ≤ n := hI_
        obtain ⟨rfl, hi⟩ := hI_
        refine C.weaken (l' := [(8, .int .u64 ((beNat ((xs.drop at_.toNat).take i) : Nat) : Int)), (30, .slice ao2 n c2), (31, .int .i64 (n : Int)), (32, .int .i64 (i : Int))]) (Sub.cons (rfl) (Sub.cons (rfl) (Sub.cons (rfl) (Sub.cons (rfl) (Sub.nil))))) ?_
        refine C.seq ?_
        refine C.region ?_
        refine W.lssI rfl rfl rfl ?_
        refine W.nil ?_
        refine At.thenCode ?_
        refine C.seq ?_
        first | refine C.condD rfl (fun c33 => ?_) (fun c33 => ?_) | refine C.cond rfl (fun c33 => ?_) (fun c33 => ?_)
        · refine C.skip ?_
          refine At.thenCode ?_
          refine C.seq ?_
          refine C.block ?_
          refine C.seq ?_
          refine C.region ?_
          have hlt : at_.toNat + i < xs.length := by omega
          refine W.idx (v := .int .u8 ((((xs[at_.toNat + i]'hlt).toNat : Nat)) : Int)) E8 Try.underlying51 Try.underlying5 rfl rfl hS2 rfl (by omega) ?_ rfl rfl ?_
          · rw [Int.toNat_natCast, List.map_take, List.getElem?_take, if_pos (by omega), List.map_drop, List.getElem?_drop]
            exact get_byte hlt
          intro p34
          have hb := UInt8.toNat_lt (xs[at_.toNat + i]'hlt)
          -- read with the address
          refine W.assign rfl rfl ?_
          refine W.nil ?_
          refine At.thenCode ?_
          refine C.region ?_
          refine W.move rfl rfl ?_
          refine W.shlU (M := 18446744073709551616) (B := 64) (s := 8) rfl rfl rfl rfl rfl rfl ?_
          refine W.move rfl rfl ?_
          first | refine W.convU (M := 18446744073709551616) rfl Try.underlying5 Try.underlying41 rfl rfl (by omega) rfl ?_ | refine W.convUU (M := 18446744073709551616) rfl Try.underlying5 Try.underlying41 rfl rfl rfl ?_
          refine W.orU (M := 18446744073709551616) rfl rfl rfl rfl rfl ?_
          refine W.assign rfl rfl ?_
          refine W.nil ?_
          refine At.blockNormal ?_
          refine At.thenCode ?_
          refine C.region ?_
          first | refine W.addI rfl rfl (by omega) rfl ?_ | refine W.addW rfl rfl rfl ?_
          refine W.move rfl rfl ?_
          refine W.nil ?_
          refine At.thenRound (i + 1) (Sub.cons (look_eq rfl (by rw [get_step hlt (by omega) hn])) (Sub.cons (rfl) (Sub.cons (rfl) (Sub.cons (look_eq rfl (by rw [show (i : Int) + 1 = ((i + 1 : Nat) : Int) by omega])) (Sub.nil))))) (show w = _ ∧ (i + 1) ≤ n from ?_) (show n - (i + 1) < n - i from ?_)
          · exact ⟨rfl, by omega⟩
          · omega
        · refine C.exit ?_
          refine At.thenExit ?_
          refine At.thenExit ?_
          refine At.blockSelf ?_
          refine At.thenCode ?_
          refine C.seq ?_
          refine C.region ?_
          refine W.move rfl rfl ?_
          refine W.assign rfl rfl ?_
          refine W.assign rfl rfl ?_
          refine W.nil ?_
          refine At.thenCode ?_
          refine C.ret ?_
          refine At.ret2 Try.results64 rfl rfl ?_
          obtain rfl : i = n := by omega
          exact ⟨by rw [getV, if_pos e0, e0], rfl⟩

theorem Get32_ok (ao : Option Addr) (c : Nat) (xs : List UInt8) (at_ : Int) (w : World) (hS : Bs w ao c xs) (hlen : xs.length ≤ 1099511627776) (hat : -9223372036854775808 ≤ at_ ∧ at_ ≤ 9223372036854775807) :
    Ct Try.prog 41 #[.slice ao xs.length c, .int .i64 at_] w (fun v w' => v = .tuple #[.int .u32 ((getV xs at_ 4 : Nat) : Int), .int .i64 (getE xs at_ 4)] ∧ w = w') := by
  refine Ct.enter [(0, .slice ao xs.length c), (1, .int .i64 at_)] Try.func41 rfl rfl rfl rfl ?_
  have hv := getV_lt xs at_ 4
  refine C.seq ?_
  refine C.region ?_
  refine W.assign rfl rfl ?_
  refine W.assign rfl rfl ?_
  refine W.nil ?_
  refine At.thenCode ?_
  refine C.seq ?_
  refine C.region ?_
  refine W.move rfl rfl ?_
  refine W.move rfl rfl ?_
  refine W.call Try.call64 rfl (get_ok _ _ _ _ 4 _ hS hlen hat (by decide)) rfl ?_
  rintro v w' ⟨rfl, rfl⟩
  refine W.move rfl rfl ?_
  refine W.extract rfl rfl rfl ?_
  refine W.extract rfl rfl rfl ?_
  refine W.assign rfl rfl ?_
  refine W.assign rfl rfl ?_
  refine W.nil ?_
  refine At.thenCode ?_
  refine C.seq ?_
  refine C.region ?_
  refine W.move rfl rfl ?_
  refine W.convU (M := 4294967296) rfl Try.underlying41 Try.underlying90 rfl rfl hv rfl ?_
  refine W.move rfl rfl ?_
  refine W.assign rfl rfl ?_
  refine W.assign rfl rfl ?_
  refine W.nil ?_
  refine At.thenCode ?_
  refine C.ret ?_
  refine At.ret2 Try.results41 rfl rfl ?_
  exact ⟨rfl, rfl⟩

theorem Get64_ok (ao : Option Addr) (c : Nat) (xs : List UInt8) (at_ : Int) (w : World) (hS : Bs w ao c xs) (hlen : xs.length ≤ 1099511627776) (hat : -9223372036854775808 ≤ at_ ∧ at_ ≤ 9223372036854775807) :
    Ct Try.prog 45 #[.slice ao xs.length c, .int .i64 at_] w (fun v w' => v = .tuple #[.int .u64 ((getV xs at_ 8 : Nat) : Int), .int .i64 (getE xs at_ 8)] ∧ w = w') := by
  refine Ct.enter [(0, .slice ao xs.length c), (1, .int .i64 at_)] Try.func45 rfl rfl rfl rfl ?_
  have hv := getV_lt xs at_ 8
  refine C.seq ?_
  refine C.region ?_
  refine W.assign rfl rfl ?_
  refine W.assign rfl rfl ?_
  refine W.nil ?_
  refine At.thenCode ?_
  refine C.seq ?_
  refine C.region ?_
  refine W.move rfl rfl ?_
  refine W.move rfl rfl ?_
  refine W.call Try.call64 rfl (get_ok _ _ _ _ 8 _ hS hlen hat (by decide)) rfl ?_
  rintro v w' ⟨rfl, rfl⟩
  refine W.extract rfl rfl rfl ?_
  refine W.extract rfl rfl rfl ?_
  refine W.assign rfl rfl ?_
  refine W.assign rfl rfl ?_
  refine W.nil ?_
  refine At.thenCode ?_
  refine C.ret ?_
  refine At.ret2 Try.results45 rfl rfl ?_
  exact ⟨rfl, rfl⟩

theorem Put32_ok (ao : Option Addr) (c : Nat) (xs : List UInt8) (x : Nat) (w : World) (hS : Bs w ao c xs) (hlen : xs.length ≤ 1099511627776) :
    Ct Try.prog 58 #[.slice ao xs.length c, .int .u32 (x : Int)] w (fun v w' => Ow w' w.heap.size 5 v (xs ++ be32 x) ∧ Ext w w') := by
  refine Ct.enter [(0, .slice ao xs.length c), (1, .int .u32 (x : Int))] Try.func58 rfl rfl rfl rfl ?_
  refine C.seq ?_
  refine C.region ?_
  refine W.assign rfl rfl ?_
  refine W.nil ?_
  refine At.thenCode ?_
  refine C.seq ?_
  refine C.region ?_
  refine W.move rfl rfl ?_
  refine W.appendB E8 Try.underlying51 rfl rfl (Ow.nil w w.heap.size 5) hS (by simp; omega) (Nat.le_refl _) rfl ?_
  rw [List.nil_append]
  intro v6 w1 ho1 hg1 _
  have hx1 : Ext w w1 := (Chg.of_grown hg1).mono fun k hk => by cases hk
  refine W.move rfl rfl ?_
  refine W.shrU (B := 32) (s := 24) rfl rfl rfl rfl ?_
  refine W.convUU (M := 256) rfl Try.underlying90 Try.underlying5 rfl rfl rfl ?_
  refine W.move rfl rfl ?_
  refine W.shrU (B := 32) (s := 16) rfl rfl rfl rfl ?_
  refine W.convUU (M := 256) rfl Try.underlying90 Try.underlying5 rfl rfl rfl ?_
  refine W.move rfl rfl ?_
  refine W.shrU (B := 32) (s := 8) rfl rfl rfl rfl ?_
  refine W.convUU (M := 256) rfl Try.underlying90 Try.underlying5 rfl rfl rfl ?_
  refine W.move rfl rfl ?_
  refine W.convUU (M := 256) rfl Try.underlying90 Try.underlying5 rfl rfl rfl ?_
  refine W.litB (be32 x) E8 Try.underlying51 rfl ?_ rfl rfl rfl ?_
  · simp only [be32, List.map_cons, List.map_nil, byteV_ofNat]; rfl
  intro g w2 hg hx2 _ hb2
  have ho2 := ownsRow_ext ho1 hx2
  refine W.appendB E8 Try.underlying51 rfl rfl ho2 hb2 (by rw [be32_length]; omega) (by have := hx1.size; have := hx2.size; omega) rfl ?_
  intro v19 w3 ho3 hg3 _
  refine W.assign rfl rfl ?_
  refine W.nil ?_
  refine At.thenCode ?_
  refine C.ret ?_
  refine At.ret1 Try.results58 rfl ?_
  refine ⟨ho3, (hx1.ext hx2).news (Chg.of_grown hg3) ?_⟩
  intro k hk
  exact Or.inr ((World.ownsRow.lt ho2 k hk.symm).1)

theorem land255 (x : Nat) : landM 4294967296 x 255 % 256 = x % 256 := by
  rw [landM, show 255 = 2 ^ 8 - 1 from rfl, Nat.and_two_pow_sub_one_eq_mod]
  omega
theorem land32 (x : Nat) : landM 18446744073709551616 x 4294967295 % 4294967296 = x % 4294967296 := by
  rw [landM, show 4294967295 = 2 ^ 32 - 1 from rfl, Nat.and_two_pow_sub_one_eq_mod]
  omega

theorem Put64_ok (ao : Option Addr) (c : Nat) (xs : List UInt8) (x : Nat) (w : World) (hS : Bs w ao c xs) (hlen : xs.length ≤ 1099511627000) :
    Ct Try.prog 34 #[.slice ao xs.length c, .int .u64 (x : Int)] w (fun v w' => Ow w' w.heap.size 5 v (xs ++ be64 x) ∧ Ext w w') := by
  refine Ct.enter [(0, .slice ao xs.length c), (1, .int .u64 (x : Int))] Try.func34 rfl rfl rfl rfl ?_
  refine C.seq ?_
  refine C.region ?_
  refine W.assign rfl rfl ?_
  refine W.nil ?_
  refine At.thenCode ?_
  refine C.seq ?_
  refine C.region ?_
  refine W.move rfl rfl ?_
  refine W.move rfl rfl ?_
  refine W.shrU (B := 64) (s := 32) rfl rfl rfl rfl ?_
  refine W.convUU (M := 4294967296) rfl Try.underlying41 Try.underlying90 rfl rfl rfl ?_
  refine W.call Try.call58 rfl (Put32_ok _ _ _ _ _ hS (by omega)) rfl ?_
  rintro v9 w9 ⟨hO9, hX9⟩
  obtain ⟨ao1, c1, rfl, hS9, hb9⟩ := ownsRow_form hO9
  refine W.move rfl rfl ?_
  refine W.convUU (M := 4294967296) rfl Try.underlying41 Try.underlying90 rfl rfl rfl ?_
  refine W.call Try.call58 rfl (Put32_ok _ _ _ _ _ hS9 (by rw [List.length_append, be32_length]; omega)) rfl ?_
  rintro v12 w12 ⟨hO12, hX12⟩
  refine W.assign rfl rfl ?_
  refine W.nil ?_
  refine At.thenCode ?_
  refine C.ret ?_
  refine At.ret1 Try.results34 rfl ?_
  refine ⟨?_, hX9.ext hX12⟩
  have := ownsRow_base hO12 hX9.size
  rw [List.append_assoc] at this
  exact this

theorem RPut32_ok (ao : Option Addr) (c : Nat) (xs : List UInt8) (x : Nat) (w : World) (hS : Bs w ao c xs) (hlen : xs.length ≤ 1099511627776) :
    Ct Try.prog 63 #[.slice ao xs.length c, .int .u32 (x : Int)] w (fun v w' => Ow w' w.heap.size 5 v (xs ++ be32 x) ∧ Ext w w') := by
  refine Ct.enter [(0, .slice ao xs.length c), (1, .int .u32 (x : Int))] Try.func63 rfl rfl rfl rfl ?_
  refine C.seq ?_
  refine C.region ?_
  refine W.assign rfl rfl ?_
  refine W.nil ?_
  refine At.thenCode ?_
  refine C.seq ?_
  refine C.region ?_
  refine W.move rfl rfl ?_
  refine W.appendB E8 Try.underlying51 rfl rfl (Ow.nil w w.heap.size 5) hS (by simp; omega) (Nat.le_refl _) rfl ?_
  rw [List.nil_append]
  intro v6 w1 ho1 hg1 _
  have hx1 : Ext w w1 := (Chg.of_grown hg1).mono fun k hk => by cases hk
  refine W.move rfl rfl ?_
  refine W.shrU (B := 32) (s := 24) rfl rfl rfl rfl ?_
  refine W.convUU (M := 256) rfl Try.underlying90 Try.underlying5 rfl rfl rfl ?_
  refine W.move rfl rfl ?_
  refine W.shrU (B := 32) (s := 16) rfl rfl rfl rfl ?_
  refine W.andU (M := 4294967296) (n := 255) rfl rfl rfl rfl rfl ?_
  refine W.convUU (M := 256) rfl Try.underlying90 Try.underlying5 rfl rfl rfl ?_
  refine W.move rfl rfl ?_
  refine W.shrU (B := 32) (s := 8) rfl rfl rfl rfl ?_
  refine W.andU (M := 4294967296) (n := 255) rfl rfl rfl rfl rfl ?_
  refine W.convUU (M := 256) rfl Try.underlying90 Try.underlying5 rfl rfl rfl ?_
  refine W.move rfl rfl ?_
  refine W.andU (M := 4294967296) (n := 255) rfl rfl rfl rfl rfl ?_
  refine W.convUU (M := 256) rfl Try.underlying90 Try.underlying5 rfl rfl rfl ?_
  refine W.litB (be32 x) E8 Try.underlying51 rfl ?_ rfl rfl rfl ?_
  · simp only [be32, List.map_cons, List.map_nil, byteV_ofNat, land255]; rfl
  intro g w2 hg hx2 _ hb2
  have ho2 := ownsRow_ext ho1 hx2
  refine W.appendB E8 Try.underlying51 rfl rfl ho2 hb2 (by rw [be32_length]; omega) (by have := hx1.size; have := hx2.size; omega) rfl ?_
  intro v22 w3 ho3 hg3 _
  refine W.assign rfl rfl ?_
  refine W.nil ?_
  refine At.thenCode ?_
  refine C.ret ?_
  refine At.ret1 Try.results63 rfl ?_
  refine ⟨ho3, (hx1.ext hx2).news (Chg.of_grown hg3) ?_⟩
  intro k hk
  exact Or.inr ((World.ownsRow.lt ho2 k hk.symm).1)

theorem RPut64_ok (ao : Option Addr) (c : Nat) (xs : List UInt8) (x : Nat) (w : World) (hS : Bs w ao c xs) (hlen : xs.length ≤ 1099511627000) :
    Ct Try.prog 39 #[.slice ao xs.length c, .int .u64 (x : Int)] w (fun v w' => Ow w' w.heap.size 5 v (xs ++ be64 x) ∧ Ext w w') := by
  refine Ct.enter [(0, .slice ao xs.length c), (1, .int .u64 (x : Int))] Try.func39 rfl rfl rfl rfl ?_
  refine C.seq ?_
  refine C.region ?_
  refine W.assign rfl rfl ?_
  refine W.nil ?_
  refine At.thenCode ?_
  refine C.seq ?_
  refine C.region ?_
  refine W.move rfl rfl ?_
  refine W.move rfl rfl ?_
  refine W.shrU (B := 64) (s := 32) rfl rfl rfl rfl ?_
  refine W.convUU (M := 4294967296) rfl Try.underlying41 Try.underlying90 rfl rfl rfl ?_
  refine W.call Try.call63 rfl (RPut32_ok _ _ _ _ _ hS (by omega)) rfl ?_
  rintro v9 w9 ⟨hO9, hX9⟩
  obtain ⟨ao1, c1, rfl, hS9, hb9⟩ := ownsRow_form hO9
  refine W.move rfl rfl ?_
  refine W.andU (M := 18446744073709551616) (n := 4294967295) rfl rfl rfl rfl rfl ?_
  refine W.convUU (M := 4294967296) rfl Try.underlying41 Try.underlying90 rfl rfl rfl ?_
  refine W.call Try.call63 rfl (RPut32_ok _ _ _ _ _ hS9 (by rw [List.length_append, be32_length]; omega)) rfl ?_
  rintro v12 w12 ⟨hO12, hX12⟩
  refine W.assign rfl rfl ?_
  refine W.nil ?_
  refine At.thenCode ?_
  refine C.ret ?_
  refine At.ret1 Try.results39 rfl ?_
  refine ⟨?_, hX9.ext hX12⟩
  have := ownsRow_base hO12 hX9.size
  rw [List.append_assoc, land32] at this
  exact this




/-! ### Turning -/
def turnK (n : Int) : Nat := (n % 32).toNat
def rotV (x : Nat) (n : Int) : Nat := iorM 4294967296 (shrM 32 x (turnK n)) (shlM 4294967296 32 x ((32 - turnK n) % 32))
theorem turnK_lt (n : Int) : turnK n < 32 := by unfold turnK; omega
theorem rotV_lt (x : Nat) (n : Int) : rotV x n < 4294967296 := by unfold rotV iorM; omega
theorem and31 (m : Nat) : landM 18446744073709551616 m 31 = m % 32 := by
  rw [landM, show 31 = 2 ^ 5 - 1 from rfl, Nat.and_two_pow_sub_one_eq_mod]; omega
theorem turnK_iu (n : Int) : landM 18446744073709551616 (iu 18446744073709551616 n) 31 = turnK n := by
  rw [and31]; unfold iu turnK; omega
theorem turnK_back (n : Int) : landM 18446744073709551616 (subM 18446744073709551616 32 (turnK n)) 31 = (32 - turnK n) % 32 := by
  have := turnK_lt n
  rw [and31]; unfold subM; omega
theorem bit_high {x i : Nat} (h : x < 4294967296) (hi : 32 ≤ i) : x.testBit i = false := by
  apply Nat.testBit_lt_two_pow
  have : (2 : Nat) ^ 32 ≤ 2 ^ i := Nat.pow_le_pow_right (by decide) hi
  omega
theorem rotV_bit {x : Nat} (h : x < 4294967296) (n : Int) {i : Nat} (hi : i < 32) : (rotV x n).testBit i = x.testBit ((i + turnK n) % 32) := by
  have hk := turnK_lt n
  unfold rotV iorM shrM shlM
  generalize turnK n = k at *
  rw [show (4294967296 : Nat) = 2 ^ 32 from rfl, Nat.testBit_mod_two_pow, Nat.testBit_or, Nat.testBit_div_two_pow, Nat.testBit_mod_two_pow, Nat.testBit_mul_two_pow]
  simp only [hi, decide_true, Bool.true_and]
  rw [show min k 32 = k by omega, show min ((32 - k) % 32) 32 = (32 - k) % 32 by omega]
  by_cases hk0 : k = 0
  · subst hk0
    simp [Nat.mod_eq_of_lt hi]
  · rw [Nat.mod_eq_of_lt (show 32 - k < 32 by omega)]
    by_cases hs : i + k < 32
    · rw [Nat.mod_eq_of_lt hs, decide_eq_false (show ¬ (32 - k ≤ i) by omega)]
      simp
    · rw [show (i + k) % 32 = i - (32 - k) by omega, bit_high h (show 32 ≤ i + k by omega), decide_eq_true (show 32 - k ≤ i by omega)]
      simp
theorem bit_and (r i : Nat) (hi : i < 32) : landM 4294967296 (shrM 32 r i) 1 = (r.testBit i).toNat := by
  rw [landM, shrM, show min i 32 = i by omega, show (1 : Nat) = 2 ^ 1 - 1 from rfl, Nat.and_two_pow_sub_one_eq_mod, Nat.testBit_eq_decide_div_mod_eq]
  have : r / 2 ^ i % 2 < 2 := Nat.mod_lt _ (by decide)
  by_cases hb : r / 2 ^ i % 2 = 1
  · simp [hb]
  · have : r / 2 ^ i % 2 = 0 := by omega
    simp [this]
theorem rotV_zero {x : Nat} (h : x < 4294967296) {n : Int} (hk : turnK n = 0) : rotV x n = x := by
  apply Nat.eq_of_testBit_eq
  intro i
  by_cases hi : i < 32
  · rw [rotV_bit h n hi, hk, Nat.add_zero, Nat.mod_eq_of_lt hi]
  · rw [bit_high (rotV_lt x n) (by omega), bit_high h (by omega)]
theorem rotV_rotV {x : Nat} (h : x < 4294967296) (n m : Int) : rotV (rotV x n) m = rotV x (n + m) := by
  apply Nat.eq_of_testBit_eq
  intro i
  by_cases hi : i < 32
  · rw [rotV_bit (rotV_lt x n) m hi, rotV_bit h n (by omega), rotV_bit h (n + m) hi]
    congr 1
    unfold turnK
    omega
  · rw [bit_high (rotV_lt _ m) (by omega), bit_high (rotV_lt _ _) (by omega)]

theorem Rot_ok (x : Nat) (n : Int) (w : World) :
    Ct Try.prog 86 #[.int .u32 (x : Int), .int .i64 n] w (fun v w' => v = .int .u32 ((rotV x n : Nat) : Int) ∧ w = w') := by
  refine Ct.enter [(0, .int .u32 (x : Int)), (1, .int .i64 n)] Try.func86 rfl rfl rfl rfl ?_
  refine C.seq ?_
  refine C.region ?_
  refine W.assign rfl rfl ?_
  refine W.nil ?_
  refine At.thenCode ?_
  refine C.seq ?_
  refine C.region ?_
  refine W.move rfl rfl ?_
  refine W.convIU (M := 18446744073709551616) rfl Try.underlying3 Try.underlying111 rfl rfl rfl ?_
  refine W.andU (M := 18446744073709551616) (n := 31) rfl rfl rfl rfl rfl ?_
  rw [turnK_iu]
  refine W.assign rfl rfl ?_
  refine W.nil ?_
  refine At.thenCode ?_
  refine C.seq ?_
  refine C.region ?_
  refine W.move rfl rfl ?_
  refine W.move rfl rfl ?_
  refine W.shrU (B := 32) rfl rfl rfl rfl ?_
  refine W.move rfl rfl ?_
  refine W.move rfl rfl ?_
  refine W.subU (M := 18446744073709551616) (m := 32) rfl rfl rfl rfl rfl ?_
  refine W.andU (M := 18446744073709551616) (n := 31) rfl rfl rfl rfl rfl ?_
  rw [turnK_back]
  refine W.shlU (M := 4294967296) (B := 32) rfl rfl rfl rfl rfl rfl ?_
  refine W.orU (M := 4294967296) rfl rfl rfl rfl rfl ?_
  refine W.assign rfl rfl ?_
  refine W.nil ?_
  refine At.thenCode ?_
  refine C.ret ?_
  refine At.ret1 Try.results86 rfl ?_
  exact ⟨rfl, rfl⟩


/-! ### Narrowing -/
def narA (a n : Int) (s : Bool) : Int := if s = true ∧ a / 2 ≤ n % a then n % a - a else n % a
def narE (b : Int) : Int := if b = 8 ∨ b = 16 ∨ b = 32 ∨ b = 64 then 0 else 1
def narV (n b : Int) (s : Bool) : Int := if b = 8 then narA 256 n s else if b = 16 then narA 65536 n s else if b = 32 then narA 4294967296 n s else if b = 64 then n else 0


theorem wrap8 (n : Int) : IntKind.i64.wrap (IntKind.i8.wrap n) = narA 256 n true := by
  unfold narA
  simp [IntKind.wrap, IntKind.bits, IntKind.signed]
  split <;> split <;> omega
theorem wrap16 (n : Int) : IntKind.i64.wrap (IntKind.i16.wrap n) = narA 65536 n true := by
  unfold narA
  simp [IntKind.wrap, IntKind.bits, IntKind.signed]
  split <;> split <;> omega
theorem wrap32 (n : Int) : IntKind.i64.wrap (IntKind.i32.wrap n) = narA 4294967296 n true := by
  unfold narA
  simp [IntKind.wrap, IntKind.bits, IntKind.signed]
  split <;> split <;> omega

theorem tmod_cases (n a : Int) (h : 0 < a) : (n.tmod a = n % a ∧ 0 ≤ n) ∨ (n < 0 ∧ n.tmod a = n % a - a ∧ n % a ≠ 0) ∨ (n < 0 ∧ n.tmod a = 0 ∧ n % a = 0) := by
  rw [Int.tmod_eq_emod]
  by_cases h0 : 0 ≤ n
  · left; rw [if_pos (Or.inl h0)]; omega
  · right
    by_cases hd : a ∣ n
    · right; rw [if_pos (Or.inr hd), Int.emod_eq_zero_of_dvd hd]; omega
    · left
      rw [if_neg (by rintro (h1 | h1); exact h0 h1; exact hd h1)]
      refine ⟨by omega, ?_, fun hc => hd (Int.dvd_of_emod_eq_zero hc)⟩
      omega
/-- What the three widths come to. -/
theorem narV_of {n b a : Int} {s : Bool} (hb : (b = 8 ∧ a = 256) ∨ (b = 16 ∧ a = 65536) ∨ (b = 32 ∧ a = 4294967296)) : narV n b s = narA a n s ∧ narE b = 0 := by
  rcases hb with ⟨rfl, rfl⟩ | ⟨rfl, rfl⟩ | ⟨rfl, rfl⟩ <;> exact ⟨rfl, rfl⟩
theorem narA_true {a n : Int} (h : a / 2 ≤ n % a) : narA a n true = n % a - a := by unfold narA; rw [if_pos ⟨rfl, h⟩]
theorem narA_low {a n : Int} {s : Bool} (h : n % a < a / 2) : narA a n s = n % a := by unfold narA; rw [if_neg]; omega
theorem narA_false {a n : Int} : narA a n false = n % a := by unfold narA; rw [if_neg]; simp
theorem narA_range {a n : Int} {s : Bool} (h : a = 256 ∨ a = 65536 ∨ a = 4294967296) : (-4294967296 ≤ narA a n s ∧ narA a n s ≤ 4294967296) ∧ narA a n s % a = n % a ∧ narA a (narA a n s) s = narA a n s ∧ (n - narA a n s) % a = 0 := by
  unfold narA
  rcases h with rfl | rfl | rfl <;> cases s <;> simp <;> (repeat' split) <;> omega

end Go.Proofs.Ythiijdbiikljpaa.Words
