/- Numbers: what each operation on integers comes to, told by plain functions on Nat (the unsigned kinds) and Int, and the walk's lemma for each. -/
import Derived.Test.YthiijdbiikljpaaKw
namespace Go.Proofs.Ythiijdbiikljpaa.KW
open Go Go.RowKit
set_option linter.unusedVariables false
set_option linter.unusedSimpArgs false

/-- How many values an unsigned kind has. -/
def modOf : IntKind → Nat
  | .u8 => 256
  | .u16 => 65536
  | .u32 => 4294967296
  | .u64 => 18446744073709551616
  | _ => 0

theorem pow_bits {k : IntKind} {M : Nat} (hk : modOf k = M) (hM : Nat.blt 0 M = true) : 2 ^ k.bits = M ∧ k.signed = false := by
  subst hk
  cases k <;> first | (exact ⟨rfl, rfl⟩) | (simp [modOf] at hM)

theorem wrap_u {k : IntKind} {M : Nat} (hk : modOf k = M) (hM : Nat.blt 0 M = true) (n : Int) : k.wrap n = n % (M : Int) := by
  obtain ⟨h1, h2⟩ := pow_bits hk hM
  have h3 : ((2 : Int) ^ k.bits) = (M : Int) := by rw [← h1]; simp
  simp only [IntKind.wrap, h2, Bool.false_and, h3]
  simp
theorem wrap_un {k : IntKind} {M : Nat} (hk : modOf k = M) (hM : Nat.blt 0 M = true) (n : Nat) : k.wrap (n : Int) = ((n % M : Nat) : Int) := by
  rw [wrap_u hk hM]; simp

def addM (M m n : Nat) : Nat := (m + n) % M
def subM (M m n : Nat) : Nat := (m + (M - n % M)) % M
def mulM (M m n : Nat) : Nat := (m * n) % M
def landM (M m n : Nat) : Nat := (m &&& n) % M
def iorM (M m n : Nat) : Nat := (m ||| n) % M
def xorM (M m n : Nat) : Nat := (m ^^^ n) % M
def notM (M m : Nat) : Nat := ((M - 1) ^^^ m) % M
def shlM (M B m s : Nat) : Nat := (m * 2 ^ (min s B)) % M
def shrM (B m s : Nat) : Nat := m / 2 ^ (min s B)
def quoM (M m n : Nat) : Nat := (m / n) % M
def iu (M : Nat) (i : Int) : Nat := (i % (M : Int)).toNat

theorem wrap_sub {k : IntKind} {M : Nat} (hk : modOf k = M) (hM : Nat.blt 0 M = true) (m n : Nat) : k.wrap ((m : Int) - (n : Int)) = ((subM M m n : Nat) : Int) := by
  have hM0 : 0 < M := lt_of_blt hM
  rw [wrap_u hk hM, subM]
  have h1 : n % M ≤ M := Nat.le_of_lt (Nat.mod_lt _ hM0)
  have h2 : ((m + (M - n % M) : Nat) : Int) = (m : Int) + ((M : Int) - ((n % M : Nat) : Int)) := by omega
  rw [Int.natCast_emod, h2, Int.natCast_emod]
  rw [show (m : Int) + ((M : Int) - (n : Int) % (M : Int)) = ((m : Int) - (n : Int) % (M : Int)) + (M : Int) by omega]
  rw [Int.add_emod_right, Int.sub_emod_emod]

theorem wrap_iu {k : IntKind} {M : Nat} (hk : modOf k = M) (hM : Nat.blt 0 M = true) (i : Int) : k.wrap i = ((iu M i : Nat) : Int) := by
  have hM0 : 0 < M := lt_of_blt hM
  rw [wrap_u hk hM, iu, Int.toNat_of_nonneg (Int.emod_nonneg _ (by omega))]

theorem i64_in' (n : Int) (h : -9223372036854775808 ≤ n ∧ n ≤ 9223372036854775807) : IntKind.i64.wrap n = n := by
  have h2 : ((2 : Int) ^ IntKind.i64.bits) = 18446744073709551616 := by decide
  have h3 : ((2 : Int) ^ (IntKind.i64.bits - 1)) = 9223372036854775808 := by decide
  simp only [IntKind.wrap, h2, h3, show IntKind.i64.signed = true from rfl, Bool.true_and]
  split
  · rename_i hc; simp at hc; omega
  · rename_i hc; simp at hc; omega

section
variable {P : Program} {N : Nat} {Q : Exit → Act → World → Prop} {l : Env} {w : World} {ops : Array Oper} {rest : List Oper} {d : Tmp} {ty : TypeId} {pos : String} {aft : Array Edge}
variable {x y : Operand} {k : IntKind} {M : Nat} {T T' : TypeId}

theorem W.bin {op : BinOp} {k k' : IntKind} {m n : Int} {r : Value} (hx : ev l x = some (.int k m)) (hy : ev l y = some (.int k' n)) (hr : (binOp op T (.int k m) (.int k' n)).run P w = .ok r w) (hN : Nat.blt d N = true)
    (next : W P N ops Q rest ((d, r) :: l) w) : W P N ops Q (⟨some d, .binOp op T x y T', ty, pos, aft, none⟩ :: rest) l w :=
  W.op rfl rfl hN (fun a ha => by
    have he : (eqGuard op T x y (.int k m) (.int k' n)) = pure () := by unfold eqGuard; split <;> rfl
    simp [execOp, ha.ev hx, ha.ev hy, he, hr]) next

/-! #### the unsigned kinds -/
theorem W.addU {m n : Nat} (hx : ev l x = some (.int k (m : Int))) (hy : ev l y = some (.int k (n : Int))) (hk : modOf k = M) (hM : Nat.blt 0 M = true) (hN : Nat.blt d N = true)
    (next : W P N ops Q rest ((d, .int k ((addM M m n : Nat) : Int)) :: l) w) : W P N ops Q (⟨some d, .binOp .add T x y T', ty, pos, aft, none⟩ :: rest) l w :=
  W.bin hx hy (by simp only [binOp, ne_eq, not_true_eq_false, if_false, Op.intArith, Sem.run_pure]; rw [show (m : Int) + (n : Int) = ((m + n : Nat) : Int) by omega, wrap_un hk hM]; rfl) hN next
theorem W.subU {m n : Nat} (hx : ev l x = some (.int k (m : Int))) (hy : ev l y = some (.int k (n : Int))) (hk : modOf k = M) (hM : Nat.blt 0 M = true) (hN : Nat.blt d N = true)
    (next : W P N ops Q rest ((d, .int k ((subM M m n : Nat) : Int)) :: l) w) : W P N ops Q (⟨some d, .binOp .sub T x y T', ty, pos, aft, none⟩ :: rest) l w :=
  W.bin hx hy (by simp only [binOp, ne_eq, not_true_eq_false, if_false, Op.intArith, Sem.run_pure]; rw [wrap_sub hk hM]) hN next
theorem W.mulU {m n : Nat} (hx : ev l x = some (.int k (m : Int))) (hy : ev l y = some (.int k (n : Int))) (hk : modOf k = M) (hM : Nat.blt 0 M = true) (hN : Nat.blt d N = true)
    (next : W P N ops Q rest ((d, .int k ((mulM M m n : Nat) : Int)) :: l) w) : W P N ops Q (⟨some d, .binOp .mul T x y T', ty, pos, aft, none⟩ :: rest) l w :=
  W.bin hx hy (by simp only [binOp, ne_eq, not_true_eq_false, if_false, Op.intArith, Sem.run_pure]; rw [show (m : Int) * (n : Int) = ((m * n : Nat) : Int) by simp, wrap_un hk hM]; rfl) hN next
theorem bits_and {k : IntKind} {M : Nat} (hk : modOf k = M) (hM : Nat.blt 0 M = true) (m n : Nat) : k.wrap ((BitVec.ofInt k.bits (m : Int) &&& BitVec.ofInt k.bits (n : Int)).toNat : Nat) = ((landM M m n : Nat) : Int) := by
  rw [wrap_un hk hM, ← (pow_bits hk hM).1]
  simp only [BitVec.ofInt_natCast, BitVec.toNat_and, BitVec.toNat_ofNat, landM, Nat.and_mod_two_pow, Nat.mod_mod]
theorem bits_or {k : IntKind} {M : Nat} (hk : modOf k = M) (hM : Nat.blt 0 M = true) (m n : Nat) : k.wrap ((BitVec.ofInt k.bits (m : Int) ||| BitVec.ofInt k.bits (n : Int)).toNat : Nat) = ((iorM M m n : Nat) : Int) := by
  rw [wrap_un hk hM, ← (pow_bits hk hM).1]
  simp only [BitVec.ofInt_natCast, BitVec.toNat_or, BitVec.toNat_ofNat, iorM, Nat.or_mod_two_pow, Nat.mod_mod]
theorem bits_xor {k : IntKind} {M : Nat} (hk : modOf k = M) (hM : Nat.blt 0 M = true) (m n : Nat) : k.wrap ((BitVec.ofInt k.bits (m : Int) ^^^ BitVec.ofInt k.bits (n : Int)).toNat : Nat) = ((xorM M m n : Nat) : Int) := by
  rw [wrap_un hk hM, ← (pow_bits hk hM).1]
  simp only [BitVec.ofInt_natCast, BitVec.toNat_xor, BitVec.toNat_ofNat, xorM, Nat.xor_mod_two_pow, Nat.mod_mod]
theorem W.andU {m n : Nat} (hx : ev l x = some (.int k (m : Int))) (hy : ev l y = some (.int k (n : Int))) (hk : modOf k = M) (hM : Nat.blt 0 M = true) (hN : Nat.blt d N = true)
    (next : W P N ops Q rest ((d, .int k ((landM M m n : Nat) : Int)) :: l) w) : W P N ops Q (⟨some d, .binOp .and T x y T', ty, pos, aft, none⟩ :: rest) l w :=
  W.bin hx hy (by simp only [binOp, ne_eq, not_true_eq_false, if_false, Op.intBits, Sem.run_pure, bits_and hk hM]) hN next
theorem W.orU {m n : Nat} (hx : ev l x = some (.int k (m : Int))) (hy : ev l y = some (.int k (n : Int))) (hk : modOf k = M) (hM : Nat.blt 0 M = true) (hN : Nat.blt d N = true)
    (next : W P N ops Q rest ((d, .int k ((iorM M m n : Nat) : Int)) :: l) w) : W P N ops Q (⟨some d, .binOp .or T x y T', ty, pos, aft, none⟩ :: rest) l w :=
  W.bin hx hy (by simp only [binOp, ne_eq, not_true_eq_false, if_false, Op.intBits, Sem.run_pure, bits_or hk hM]) hN next
theorem W.xorU {m n : Nat} (hx : ev l x = some (.int k (m : Int))) (hy : ev l y = some (.int k (n : Int))) (hk : modOf k = M) (hM : Nat.blt 0 M = true) (hN : Nat.blt d N = true)
    (next : W P N ops Q rest ((d, .int k ((xorM M m n : Nat) : Int)) :: l) w) : W P N ops Q (⟨some d, .binOp .xor T x y T', ty, pos, aft, none⟩ :: rest) l w :=
  W.bin hx hy (by simp only [binOp, ne_eq, not_true_eq_false, if_false, Op.intBits, Sem.run_pure, bits_xor hk hM]) hN next
theorem W.shlU {m s B : Nat} {ky : IntKind} (hx : ev l x = some (.int k (m : Int))) (hy : ev l y = some (.int ky (s : Int))) (hk : modOf k = M) (hM : Nat.blt 0 M = true) (hB : k.bits = B) (hN : Nat.blt d N = true)
    (next : W P N ops Q rest ((d, .int k ((shlM M B m s : Nat) : Int)) :: l) w) : W P N ops Q (⟨some d, .binOp .shl T x y T', ty, pos, aft, none⟩ :: rest) l w :=
  W.bin hx hy (by
    have h0 : ¬ ((s : Int) < 0) := by omega
    simp only [binOp, Op.shift, if_neg h0, Sem.run_pure, Int.toNat_natCast, hB]
    rw [show (m : Int) * 2 ^ (min s B) = ((m * 2 ^ (min s B) : Nat) : Int) by simp, wrap_un hk hM]; rfl) hN next
theorem W.shrU {m s B : Nat} {ky : IntKind} (hx : ev l x = some (.int k (m : Int))) (hy : ev l y = some (.int ky (s : Int))) (hB : k.bits = B) (hN : Nat.blt d N = true)
    (next : W P N ops Q rest ((d, .int k ((shrM B m s : Nat) : Int)) :: l) w) : W P N ops Q (⟨some d, .binOp .shr T x y T', ty, pos, aft, none⟩ :: rest) l w :=
  W.bin hx hy (by
    have h0 : ¬ ((s : Int) < 0) := by omega
    simp only [binOp, Op.shift, if_neg h0, Sem.run_pure, Int.toNat_natCast, hB, shrM]
    rw [Int.fdiv_eq_ediv_of_nonneg _ (by exact Int.le_of_lt (Int.pow_pos (by decide)))]
    simp) hN next
theorem W.remU {m n : Nat} (hx : ev l x = some (.int k (m : Int))) (hy : ev l y = some (.int k (n : Int))) (hn : 0 < n) (hN : Nat.blt d N = true)
    (next : W P N ops Q rest ((d, .int k ((m % n : Nat) : Int)) :: l) w) : W P N ops Q (⟨some d, .binOp .rem T x y T', ty, pos, aft, none⟩ :: rest) l w :=
  W.bin hx hy (by
    have h0 : ¬ ((n : Int) = 0) := by omega
    simp only [binOp, ne_eq, not_true_eq_false, if_false, Op.intDiv, if_neg h0, Sem.run_pure]
    rw [Int.tmod_eq_emod_of_nonneg (by omega)]; simp) hN next
theorem W.quoU {m n : Nat} (hx : ev l x = some (.int k (m : Int))) (hy : ev l y = some (.int k (n : Int))) (hn : 0 < n) (hk : modOf k = M) (hM : Nat.blt 0 M = true) (hN : Nat.blt d N = true)
    (next : W P N ops Q rest ((d, .int k ((quoM M m n : Nat) : Int)) :: l) w) : W P N ops Q (⟨some d, .binOp .quo T x y T', ty, pos, aft, none⟩ :: rest) l w :=
  W.bin hx hy (by
    have h0 : ¬ ((n : Int) = 0) := by omega
    simp only [binOp, ne_eq, not_true_eq_false, if_false, Op.intDiv, if_neg h0, Sem.run_pure]
    rw [Int.tdiv_eq_ediv_of_nonneg (by omega), show (m : Int) / (n : Int) = ((m / n : Nat) : Int) by simp, wrap_un hk hM]; rfl) hN next
theorem W.lssU {m n : Nat} (hx : ev l x = some (.int k (m : Int))) (hy : ev l y = some (.int k (n : Int))) (hN : Nat.blt d N = true)
    (next : W P N ops Q rest ((d, .bool (decide (m < n))) :: l) w) : W P N ops Q (⟨some d, .binOp .lss T x y T', ty, pos, aft, none⟩ :: rest) l w :=
  W.bin hx hy (by simp [binOp, Op.intCmp]) hN next
theorem W.leqU {m n : Nat} (hx : ev l x = some (.int k (m : Int))) (hy : ev l y = some (.int k (n : Int))) (hN : Nat.blt d N = true)
    (next : W P N ops Q rest ((d, .bool (decide (m ≤ n))) :: l) w) : W P N ops Q (⟨some d, .binOp .leq T x y T', ty, pos, aft, none⟩ :: rest) l w :=
  W.bin hx hy (by simp [binOp, Op.intCmp]) hN next
theorem W.gtrU {m n : Nat} (hx : ev l x = some (.int k (m : Int))) (hy : ev l y = some (.int k (n : Int))) (hN : Nat.blt d N = true)
    (next : W P N ops Q rest ((d, .bool (decide (n < m))) :: l) w) : W P N ops Q (⟨some d, .binOp .gtr T x y T', ty, pos, aft, none⟩ :: rest) l w :=
  W.bin hx hy (by simp [binOp, Op.intCmp]) hN next
theorem W.geqU {m n : Nat} (hx : ev l x = some (.int k (m : Int))) (hy : ev l y = some (.int k (n : Int))) (hN : Nat.blt d N = true)
    (next : W P N ops Q rest ((d, .bool (decide (n ≤ m))) :: l) w) : W P N ops Q (⟨some d, .binOp .geq T x y T', ty, pos, aft, none⟩ :: rest) l w :=
  W.bin hx hy (by simp [binOp, Op.intCmp]) hN next
theorem W.eqlU {m n : Nat} (hx : ev l x = some (.int k (m : Int))) (hy : ev l y = some (.int k (n : Int))) (hN : Nat.blt d N = true)
    (next : W P N ops Q rest ((d, .bool (decide (m = n))) :: l) w) : W P N ops Q (⟨some d, .binOp .eql T x y T', ty, pos, aft, none⟩ :: rest) l w :=
  W.bin hx hy (by
    have e : ((m : Int) == (n : Int)) = decide (m = n) := by rw [Bool.eq_iff_iff]; simp; omega
    simp only [binOp, ne_eq, not_true_eq_false, if_false, Op.intCmp, Sem.run_pure, e]) hN next
theorem W.neqU {m n : Nat} (hx : ev l x = some (.int k (m : Int))) (hy : ev l y = some (.int k (n : Int))) (hN : Nat.blt d N = true)
    (next : W P N ops Q rest ((d, .bool (decide (¬ m = n))) :: l) w) : W P N ops Q (⟨some d, .binOp .neq T x y T', ty, pos, aft, none⟩ :: rest) l w :=
  W.bin hx hy (by
    have e : ((m : Int) != (n : Int)) = decide (¬ m = n) := by rw [Bool.eq_iff_iff]; simp; omega
    simp only [binOp, ne_eq, not_true_eq_false, if_false, Op.intCmp, Sem.run_pure, e]) hN next

/-! #### the signed kinds (int) -/
theorem W.addI {m n : Int} (hx : ev l x = some (.int .i64 m)) (hy : ev l y = some (.int .i64 n)) (hb : -9223372036854775808 ≤ m + n ∧ m + n ≤ 9223372036854775807) (hN : Nat.blt d N = true)
    (next : W P N ops Q rest ((d, .int .i64 (m + n)) :: l) w) : W P N ops Q (⟨some d, .binOp .add T x y T', ty, pos, aft, none⟩ :: rest) l w :=
  W.bin hx hy (by simp only [binOp, ne_eq, not_true_eq_false, if_false, Op.intArith, Sem.run_pure, i64_in' _ hb]) hN next
theorem W.subI {m n : Int} (hx : ev l x = some (.int .i64 m)) (hy : ev l y = some (.int .i64 n)) (hb : -9223372036854775808 ≤ m - n ∧ m - n ≤ 9223372036854775807) (hN : Nat.blt d N = true)
    (next : W P N ops Q rest ((d, .int .i64 (m - n)) :: l) w) : W P N ops Q (⟨some d, .binOp .sub T x y T', ty, pos, aft, none⟩ :: rest) l w :=
  W.bin hx hy (by simp only [binOp, ne_eq, not_true_eq_false, if_false, Op.intArith, Sem.run_pure, i64_in' _ hb]) hN next
theorem W.mulI {m n : Int} (hx : ev l x = some (.int .i64 m)) (hy : ev l y = some (.int .i64 n)) (hb : -9223372036854775808 ≤ m * n ∧ m * n ≤ 9223372036854775807) (hN : Nat.blt d N = true)
    (next : W P N ops Q rest ((d, .int .i64 (m * n)) :: l) w) : W P N ops Q (⟨some d, .binOp .mul T x y T', ty, pos, aft, none⟩ :: rest) l w :=
  W.bin hx hy (by simp only [binOp, ne_eq, not_true_eq_false, if_false, Op.intArith, Sem.run_pure, i64_in' _ hb]) hN next
theorem W.addW {m n : Int} (hx : ev l x = some (.int .i64 m)) (hy : ev l y = some (.int .i64 n)) (hN : Nat.blt d N = true)
    (next : W P N ops Q rest ((d, .int .i64 (IntKind.i64.wrap (m + n))) :: l) w) : W P N ops Q (⟨some d, .binOp .add T x y T', ty, pos, aft, none⟩ :: rest) l w :=
  W.bin hx hy (by simp only [binOp, ne_eq, not_true_eq_false, if_false, Op.intArith, Sem.run_pure]) hN next
theorem W.subW {m n : Int} (hx : ev l x = some (.int .i64 m)) (hy : ev l y = some (.int .i64 n)) (hN : Nat.blt d N = true)
    (next : W P N ops Q rest ((d, .int .i64 (IntKind.i64.wrap (m - n))) :: l) w) : W P N ops Q (⟨some d, .binOp .sub T x y T', ty, pos, aft, none⟩ :: rest) l w :=
  W.bin hx hy (by simp only [binOp, ne_eq, not_true_eq_false, if_false, Op.intArith, Sem.run_pure]) hN next
theorem W.mulW {m n : Int} (hx : ev l x = some (.int .i64 m)) (hy : ev l y = some (.int .i64 n)) (hN : Nat.blt d N = true)
    (next : W P N ops Q rest ((d, .int .i64 (IntKind.i64.wrap (m * n))) :: l) w) : W P N ops Q (⟨some d, .binOp .mul T x y T', ty, pos, aft, none⟩ :: rest) l w :=
  W.bin hx hy (by simp only [binOp, ne_eq, not_true_eq_false, if_false, Op.intArith, Sem.run_pure]) hN next
/-- '/' and '%' of what is not negative. -/
theorem W.quoI {m n : Int} (hx : ev l x = some (.int .i64 m)) (hy : ev l y = some (.int .i64 n)) (hb : 0 ≤ m ∧ 0 < n ∧ m ≤ 9223372036854775807) (hN : Nat.blt d N = true)
    (next : W P N ops Q rest ((d, .int .i64 (m / n)) :: l) w) : W P N ops Q (⟨some d, .binOp .quo T x y T', ty, pos, aft, none⟩ :: rest) l w :=
  W.bin hx hy (by
    have h0 : ¬ (n = 0) := by omega
    simp only [binOp, ne_eq, not_true_eq_false, if_false, Op.intDiv, if_neg h0, Sem.run_pure]
    rw [Int.tdiv_eq_ediv_of_nonneg hb.1, i64_in']
    have h1 : 0 ≤ m / n := Int.ediv_nonneg hb.1 (by omega)
    have h2 : m / n ≤ m := Int.ediv_le_self _ hb.1
    omega) hN next
theorem W.remI {m n : Int} (hx : ev l x = some (.int .i64 m)) (hy : ev l y = some (.int .i64 n)) (hb : 0 ≤ m ∧ ¬ n = 0) (hN : Nat.blt d N = true)
    (next : W P N ops Q rest ((d, .int .i64 (m % n)) :: l) w) : W P N ops Q (⟨some d, .binOp .rem T x y T', ty, pos, aft, none⟩ :: rest) l w :=
  W.bin hx hy (by
    simp only [binOp, ne_eq, not_true_eq_false, if_false, Op.intDiv, if_neg hb.2, Sem.run_pure]
    rw [Int.tmod_eq_emod_of_nonneg hb.1]) hN next
theorem W.quoW {m n : Int} (hx : ev l x = some (.int .i64 m)) (hy : ev l y = some (.int .i64 n)) (hb : ¬ n = 0) (hN : Nat.blt d N = true)
    (next : W P N ops Q rest ((d, .int .i64 (IntKind.i64.wrap (m.tdiv n))) :: l) w) : W P N ops Q (⟨some d, .binOp .quo T x y T', ty, pos, aft, none⟩ :: rest) l w :=
  W.bin hx hy (by simp only [binOp, ne_eq, not_true_eq_false, if_false, Op.intDiv, if_neg hb, Sem.run_pure]) hN next
theorem W.remW {m n : Int} (hx : ev l x = some (.int .i64 m)) (hy : ev l y = some (.int .i64 n)) (hb : ¬ n = 0) (hN : Nat.blt d N = true)
    (next : W P N ops Q rest ((d, .int .i64 (m.tmod n)) :: l) w) : W P N ops Q (⟨some d, .binOp .rem T x y T', ty, pos, aft, none⟩ :: rest) l w :=
  W.bin hx hy (by simp only [binOp, ne_eq, not_true_eq_false, if_false, Op.intDiv, if_neg hb, Sem.run_pure]) hN next
/-- '&' with the lowest j bits. -/
theorem andMask (m : Int) (j : Nat) (hj : j ≤ 62) : IntKind.i64.wrap ((BitVec.ofInt IntKind.i64.bits m &&& BitVec.ofInt IntKind.i64.bits ((2 ^ j - 1 : Nat) : Int)).toNat : Nat) = m % (2 ^ j : Nat) := by
  have hb : IntKind.i64.bits = 64 := rfl
  rw [hb]
  have h62 : (2 : Nat) ^ j ≤ 2 ^ 62 := Nat.pow_le_pow_right (by omega) hj
  have hp : 0 < (2 : Nat) ^ j := Nat.two_pow_pos j
  have h1 : (BitVec.ofInt 64 ((2 ^ j - 1 : Nat) : Int)).toNat = 2 ^ j - 1 := by
    rw [BitVec.ofInt_natCast, BitVec.toNat_ofNat, Nat.mod_eq_of_lt]
    have : (2 : Nat) ^ 62 < 2 ^ 64 := by decide
    omega
  rw [BitVec.toNat_and, h1, Nat.and_two_pow_sub_one_eq_mod, BitVec.toNat_ofInt]
  have hd : ((2 ^ j : Nat) : Int) ∣ ((2 ^ 64 : Nat) : Int) := Int.natCast_dvd_natCast.2 (Nat.pow_dvd_pow 2 (by omega))
  have h2 : (((m % ((2 ^ 64 : Nat) : Int)).toNat % 2 ^ j : Nat) : Int) = m % (2 ^ j : Nat) := by
    rw [Int.natCast_emod, Int.toNat_of_nonneg (Int.emod_nonneg _ (by decide)), Int.emod_emod_of_dvd _ hd]
  rw [h2]
  apply i64_in'
  have h3 := Int.emod_nonneg m (show ((2 ^ j : Nat) : Int) ≠ 0 by omega)
  have h4 := Int.emod_lt_of_pos m (show (0 : Int) < ((2 ^ j : Nat) : Int) by omega)
  have : (2 : Nat) ^ 62 ≤ 9223372036854775807 := by decide
  omega
theorem W.maskI {m n : Int} (j : Nat) (hx : ev l x = some (.int .i64 m)) (hy : ev l y = some (.int .i64 n)) (hn : n = ((2 ^ j - 1 : Nat) : Int)) (hj : j ≤ 62) (hN : Nat.blt d N = true)
    (next : W P N ops Q rest ((d, .int .i64 (m % (2 ^ j : Nat))) :: l) w) : W P N ops Q (⟨some d, .binOp .and T x y T', ty, pos, aft, none⟩ :: rest) l w :=
  W.bin hx hy (by subst hn; simp only [binOp, ne_eq, not_true_eq_false, if_false, Op.intBits, Sem.run_pure, andMask m j hj]) hN next
theorem W.shlI {m : Int} {s : Nat} {ky : IntKind} (hx : ev l x = some (.int .i64 m)) (hy : ev l y = some (.int ky (s : Int))) (hs : s ≤ 64) (hb : -9223372036854775808 ≤ m * 2 ^ s ∧ m * 2 ^ s ≤ 9223372036854775807) (hN : Nat.blt d N = true)
    (next : W P N ops Q rest ((d, .int .i64 (m * 2 ^ s)) :: l) w) : W P N ops Q (⟨some d, .binOp .shl T x y T', ty, pos, aft, none⟩ :: rest) l w :=
  W.bin hx hy (by
    have h0 : ¬ ((s : Int) < 0) := by omega
    simp only [binOp, Op.shift, if_neg h0, Sem.run_pure, Int.toNat_natCast, show IntKind.i64.bits = 64 from rfl, Nat.min_eq_left hs, i64_in' _ hb]) hN next
theorem W.shrI {m : Int} {s : Nat} {ky : IntKind} (hx : ev l x = some (.int .i64 m)) (hy : ev l y = some (.int ky (s : Int))) (hs : s ≤ 64) (hN : Nat.blt d N = true)
    (next : W P N ops Q rest ((d, .int .i64 (m / 2 ^ s)) :: l) w) : W P N ops Q (⟨some d, .binOp .shr T x y T', ty, pos, aft, none⟩ :: rest) l w :=
  W.bin hx hy (by
    have h0 : ¬ ((s : Int) < 0) := by omega
    simp only [binOp, Op.shift, if_neg h0, Sem.run_pure, Int.toNat_natCast, show IntKind.i64.bits = 64 from rfl, Nat.min_eq_left hs]
    rw [Int.fdiv_eq_ediv_of_nonneg _ (by exact Int.le_of_lt (Int.pow_pos (by decide)))]) hN next
theorem W.lssI {m n : Int} (hx : ev l x = some (.int k m)) (hy : ev l y = some (.int k n)) (hN : Nat.blt d N = true)
    (next : W P N ops Q rest ((d, .bool (decide (m < n))) :: l) w) : W P N ops Q (⟨some d, .binOp .lss T x y T', ty, pos, aft, none⟩ :: rest) l w :=
  W.bin hx hy (by simp [binOp, Op.intCmp]) hN next
theorem W.leqI {m n : Int} (hx : ev l x = some (.int k m)) (hy : ev l y = some (.int k n)) (hN : Nat.blt d N = true)
    (next : W P N ops Q rest ((d, .bool (decide (m ≤ n))) :: l) w) : W P N ops Q (⟨some d, .binOp .leq T x y T', ty, pos, aft, none⟩ :: rest) l w :=
  W.bin hx hy (by simp [binOp, Op.intCmp]) hN next
theorem W.gtrI {m n : Int} (hx : ev l x = some (.int k m)) (hy : ev l y = some (.int k n)) (hN : Nat.blt d N = true)
    (next : W P N ops Q rest ((d, .bool (decide (n < m))) :: l) w) : W P N ops Q (⟨some d, .binOp .gtr T x y T', ty, pos, aft, none⟩ :: rest) l w :=
  W.bin hx hy (by simp [binOp, Op.intCmp]) hN next
theorem W.geqI {m n : Int} (hx : ev l x = some (.int k m)) (hy : ev l y = some (.int k n)) (hN : Nat.blt d N = true)
    (next : W P N ops Q rest ((d, .bool (decide (n ≤ m))) :: l) w) : W P N ops Q (⟨some d, .binOp .geq T x y T', ty, pos, aft, none⟩ :: rest) l w :=
  W.bin hx hy (by simp [binOp, Op.intCmp]) hN next
theorem W.eqlI {m n : Int} (hx : ev l x = some (.int k m)) (hy : ev l y = some (.int k n)) (hN : Nat.blt d N = true)
    (next : W P N ops Q rest ((d, .bool (decide (m = n))) :: l) w) : W P N ops Q (⟨some d, .binOp .eql T x y T', ty, pos, aft, none⟩ :: rest) l w :=
  W.bin hx hy (by
    have e : (m == n) = decide (m = n) := by rw [Bool.eq_iff_iff]; simp
    simp only [binOp, ne_eq, not_true_eq_false, if_false, Op.intCmp, Sem.run_pure, e]) hN next
theorem W.neqI {m n : Int} (hx : ev l x = some (.int k m)) (hy : ev l y = some (.int k n)) (hN : Nat.blt d N = true)
    (next : W P N ops Q rest ((d, .bool (decide (¬ m = n))) :: l) w) : W P N ops Q (⟨some d, .binOp .neq T x y T', ty, pos, aft, none⟩ :: rest) l w :=
  W.bin hx hy (by
    have e : (m != n) = decide (¬ m = n) := by rw [Bool.eq_iff_iff]; simp
    simp only [binOp, ne_eq, not_true_eq_false, if_false, Op.intCmp, Sem.run_pure, e]) hN next

/-! #### bools -/
theorem equalIn_bool (n : Nat) {a b : Bool} (hT : P.underlying T = some .bool) : (Op.equalIn (n + 1) T (.bool a) (.bool b)).run P w = .ok (a == b) w := by
  simp [Op.equalIn, run_underlying hT]
theorem equal_bool {a b : Bool} (hT : P.underlying T = some .bool) : (Op.equal T (.bool a) (.bool b)).run P w = .ok (a == b) w := equalIn_bool 9999 hT
theorem W.eqlB {a b : Bool} (hx : ev l x = some (.bool a)) (hy : ev l y = some (.bool b)) (hT : P.underlying T = some .bool) (hN : Nat.blt d N = true)
    (next : W P N ops Q rest ((d, .bool (a == b)) :: l) w) : W P N ops Q (⟨some d, .binOp .eql T x y T', ty, pos, aft, none⟩ :: rest) l w :=
  W.op rfl rfl hN (fun f ha => by
    have he : (eqGuard .eql T x y (.bool a) (.bool b)) = pure () := by unfold eqGuard; split <;> rfl
    simp only [execOp, ha.ev hx, ha.ev hy, he, binOp, Sem.run_bind, Sem.run_pure, Result.andThen_ok, equal_bool hT]) next
theorem W.neqB {a b : Bool} (hx : ev l x = some (.bool a)) (hy : ev l y = some (.bool b)) (hT : P.underlying T = some .bool) (hN : Nat.blt d N = true)
    (next : W P N ops Q rest ((d, .bool (!(a == b))) :: l) w) : W P N ops Q (⟨some d, .binOp .neq T x y T', ty, pos, aft, none⟩ :: rest) l w :=
  W.op rfl rfl hN (fun f ha => by
    have he : (eqGuard .neq T x y (.bool a) (.bool b)) = pure () := by unfold eqGuard; split <;> rfl
    simp only [execOp, ha.ev hx, ha.ev hy, he, binOp, Sem.run_bind, Sem.run_pure, Result.andThen_ok, equal_bool hT]) next
theorem W.notD {p : Prop} [Decidable p] (hx : ev l x = some (.bool (decide p))) (hN : Nat.blt d N = true)
    (next : W P N ops Q rest ((d, .bool (decide (¬ p))) :: l) w) : W P N ops Q (⟨some d, .unOp .not T x, ty, pos, aft, none⟩ :: rest) l w :=
  W.op rfl rfl hN (fun a ha => by simp [execOp, ha.ev hx, Op.unary]) next
theorem W.notB {b : Bool} (hx : ev l x = some (.bool b)) (hN : Nat.blt d N = true)
    (next : W P N ops Q rest ((d, .bool (!b)) :: l) w) : W P N ops Q (⟨some d, .unOp .not T x, ty, pos, aft, none⟩ :: rest) l w :=
  W.op rfl rfl hN (fun a ha => by simp [execOp, ha.ev hx, Op.unary]) next
theorem W.negI {m : Int} (hx : ev l x = some (.int .i64 m)) (hb : -9223372036854775808 ≤ -m ∧ -m ≤ 9223372036854775807) (hN : Nat.blt d N = true)
    (next : W P N ops Q rest ((d, .int .i64 (-m)) :: l) w) : W P N ops Q (⟨some d, .unOp .neg T x, ty, pos, aft, none⟩ :: rest) l w :=
  W.op rfl rfl hN (fun a ha => by simp [execOp, ha.ev hx, Op.unary, Op.intArith, i64_in' _ hb]) next
theorem bits_not {k : IntKind} {M : Nat} (hk : modOf k = M) (hM : Nat.blt 0 M = true) (m : Nat) : k.wrap ((BitVec.ofInt k.bits (if k.signed then -1 else k.max) ^^^ BitVec.ofInt k.bits (m : Int)).toNat : Nat) = ((notM M m : Nat) : Int) := by
  obtain ⟨h1, h2⟩ := pow_bits hk hM
  have hM0 : 0 < M := lt_of_blt hM
  have hmax : k.max = ((M - 1 : Nat) : Int) := by
    have h3 : ((2 : Int) ^ k.bits) = (M : Int) := by rw [← h1]; simp
    simp only [IntKind.max, h2, Bool.false_eq_true, if_false, h3]; omega
  rw [h2, if_neg (by simp), hmax, bits_xor hk hM]
  rfl
theorem W.notU {m : Nat} (hx : ev l x = some (.int k (m : Int))) (hk : modOf k = M) (hM : Nat.blt 0 M = true) (hN : Nat.blt d N = true)
    (next : W P N ops Q rest ((d, .int k ((notM M m : Nat) : Int)) :: l) w) : W P N ops Q (⟨some d, .unOp .xor T x, ty, pos, aft, none⟩ :: rest) l w :=
  W.op rfl rfl hN (fun a ha => by
    have := bits_not hk hM m
    simp only [execOp, ha.ev hx, Op.unary, Op.intBits]
    simp only [Sem.run_bind, Sem.run_pure, Result.andThen_ok, this]) next

/-! #### conversions -/
theorem W.conv {src dst : TypeId} {k k' : IntKind} {n : Int} {ds : TypeDesc} (hx : ev l x = some (.int k n)) (hs : P.underlying src = some ds) (hd : P.underlying dst = some (.int k')) (hN : Nat.blt d N = true)
    (next : W P N ops Q rest ((d, .int k' (k'.wrap n)) :: l) w) : W P N ops Q (⟨some d, .convert src dst x, ty, pos, aft, none⟩ :: rest) l w :=
  W.op rfl rfl hN (fun a ha => by simp [execOp, ha.ev hx, convert, run_underlying hs, run_underlying hd, Conv.intToInt]) next
theorem W.convUU {src dst : TypeId} {k k' : IntKind} {m M : Nat} {ds : TypeDesc} (hx : ev l x = some (.int k (m : Int))) (hs : P.underlying src = some ds) (hd : P.underlying dst = some (.int k')) (hk : modOf k' = M) (hM : Nat.blt 0 M = true) (hN : Nat.blt d N = true)
    (next : W P N ops Q rest ((d, .int k' ((m % M : Nat) : Int)) :: l) w) : W P N ops Q (⟨some d, .convert src dst x, ty, pos, aft, none⟩ :: rest) l w :=
  W.conv hx hs hd hN (by rw [wrap_un hk hM]; exact next)
theorem W.convU {src dst : TypeId} {k k' : IntKind} {m M : Nat} {ds : TypeDesc} (hx : ev l x = some (.int k (m : Int))) (hs : P.underlying src = some ds) (hd : P.underlying dst = some (.int k')) (hk : modOf k' = M) (hM : Nat.blt 0 M = true) (hm : m < M) (hN : Nat.blt d N = true)
    (next : W P N ops Q rest ((d, .int k' (m : Int)) :: l) w) : W P N ops Q (⟨some d, .convert src dst x, ty, pos, aft, none⟩ :: rest) l w :=
  W.conv hx hs hd hN (by rw [wrap_un hk hM, Nat.mod_eq_of_lt hm]; exact next)
theorem W.convIU {src dst : TypeId} {k k' : IntKind} {i : Int} {M : Nat} {ds : TypeDesc} (hx : ev l x = some (.int k i)) (hs : P.underlying src = some ds) (hd : P.underlying dst = some (.int k')) (hk : modOf k' = M) (hM : Nat.blt 0 M = true) (hN : Nat.blt d N = true)
    (next : W P N ops Q rest ((d, .int k' ((iu M i : Nat) : Int)) :: l) w) : W P N ops Q (⟨some d, .convert src dst x, ty, pos, aft, none⟩ :: rest) l w :=
  W.conv hx hs hd hN (by rw [wrap_iu hk hM]; exact next)
/-- of an int that is not negative and fits. -/
theorem W.convIN {src dst : TypeId} {k k' : IntKind} {i : Int} {M : Nat} {ds : TypeDesc} (hx : ev l x = some (.int k i)) (hs : P.underlying src = some ds) (hd : P.underlying dst = some (.int k')) (hk : modOf k' = M) (hM : Nat.blt 0 M = true) (hi : 0 ≤ i ∧ i < (M : Int)) (hN : Nat.blt d N = true)
    (next : W P N ops Q rest ((d, .int k' ((i.toNat : Nat) : Int)) :: l) w) : W P N ops Q (⟨some d, .convert src dst x, ty, pos, aft, none⟩ :: rest) l w :=
  W.conv hx hs hd hN (by
    have e : k'.wrap i = ((i.toNat : Nat) : Int) := by rw [wrap_u hk hM, Int.toNat_of_nonneg hi.1, Int.emod_eq_of_lt hi.1 hi.2]
    rw [e]; exact next)
/-- to int, of what fits. -/
theorem W.convI {src dst : TypeId} {k : IntKind} {i : Int} {ds : TypeDesc} (hx : ev l x = some (.int k i)) (hs : P.underlying src = some ds) (hd : P.underlying dst = some (.int .i64)) (hi : -9223372036854775808 ≤ i ∧ i ≤ 9223372036854775807) (hN : Nat.blt d N = true)
    (next : W P N ops Q rest ((d, .int .i64 i) :: l) w) : W P N ops Q (⟨some d, .convert src dst x, ty, pos, aft, none⟩ :: rest) l w :=
  W.conv hx hs hd hN (by rw [i64_in' _ hi]; exact next)
end
end Go.Proofs.Ythiijdbiikljpaa.KW
