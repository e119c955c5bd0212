/- Package sha and the reference's Sha: what they compute, and their walks. -/
import Derived.Test.YthiijdbiikljpaaKa
import Derived.Test.YthiijdbiikljpaaKr
import Derived.Test.YthiijdbiikljpaaWords
namespace Go.Proofs.Ythiijdbiikljpaa.Sha
open Go Go.RowKit Go.Proofs.Ythiijdbiikljpaa.KW Go.Proofs.Ythiijdbiikljpaa.Words
set_option linter.unusedVariables false
set_option linter.unusedSimpArgs false
set_option maxRecDepth 100000

def M32 : Nat := 4294967296
def shaK : List Nat := [0x428a2f98, 0x71374491, 0xb5c0fbcf, 0xe9b5dba5, 0x3956c25b, 0x59f111f1, 0x923f82a4, 0xab1c5ed5,
  0xd807aa98, 0x12835b01, 0x243185be, 0x550c7dc3, 0x72be5d74, 0x80deb1fe, 0x9bdc06a7, 0xc19bf174,
  0xe49b69c1, 0xefbe4786, 0x0fc19dc6, 0x240ca1cc, 0x2de92c6f, 0x4a7484aa, 0x5cb0a9dc, 0x76f988da,
  0x983e5152, 0xa831c66d, 0xb00327c8, 0xbf597fc7, 0xc6e00bf3, 0xd5a79147, 0x06ca6351, 0x14292967,
  0x27b70a85, 0x2e1b2138, 0x4d2c6dfc, 0x53380d13, 0x650a7354, 0x766a0abb, 0x81c2c92e, 0x92722c85,
  0xa2bfe8a1, 0xa81a664b, 0xc24b8b70, 0xc76c51a3, 0xd192e819, 0xd6990624, 0xf40e3585, 0x106aa070,
  0x19a4c116, 0x1e376c08, 0x2748774c, 0x34b0bcb5, 0x391c0cb3, 0x4ed8aa4a, 0x5b9cca4f, 0x682e6ff3,
  0x748f82ee, 0x78a5636f, 0x84c87814, 0x8cc70208, 0x90befffa, 0xa4506ceb, 0xbef9a3f7, 0xc67178f2]
def shaH : List Nat := [0x6a09e667, 0xbb67ae85, 0x3c6ef372, 0xa54ff53a, 0x510e527f, 0x9b05688c, 0x1f83d9ab, 0x5be0cd19]
/-- A word of the schedule, of those 16, 15, 7 and 2 ahead. -/
def nextW (p x b y : Nat) : Nat :=
  addM 4294967296 (addM 4294967296 (addM 4294967296 p (xorM 4294967296 (xorM 4294967296 (rotV x 7) (rotV x 18)) (shrM 32 x 3))) b) (xorM 4294967296 (xorM 4294967296 (rotV y 17) (rotV y 19)) (shrM 32 y 10))
def sch (ws : List Nat) : Nat → List Nat
  | 0 => []
  | i + 1 => sch ws i ++ [if i < 16 then ws.getD i 0 else nextW ((sch ws i).getD (i - 16) 0) ((sch ws i).getD (i - 15) 0) ((sch ws i).getD (i - 7) 0) ((sch ws i).getD (i - 2) 0)]
theorem sch_length (ws : List Nat) : ∀ i, (sch ws i).length = i := by
  intro i
  induction i with
  | zero => rfl
  | succ i ih => rw [sch, List.length_append, ih]; rfl
def oneV (e f g h k : Nat) : Nat :=
  addM 4294967296 (addM 4294967296 (addM 4294967296 h (xorM 4294967296 (xorM 4294967296 (rotV e 6) (rotV e 11)) (rotV e 25))) (xorM 4294967296 (landM 4294967296 e f) (landM 4294967296 (notM 4294967296 e) g))) k
def twoV (a b c : Nat) : Nat :=
  addM 4294967296 (xorM 4294967296 (xorM 4294967296 (rotV a 2) (rotV a 13)) (rotV a 22)) (xorM 4294967296 (xorM 4294967296 (landM 4294967296 a b) (landM 4294967296 a c)) (landM 4294967296 b c))
def stepL : List Nat → Nat → List Nat
  | [a, b, c, d, e, f, g, h], k => [addM 4294967296 (oneV e f g h k) (twoV a b c), a, b, c, addM 4294967296 d (oneV e f g h k), e, f, g]
  | l, _ => l
def rnd (hs ks ws : List Nat) : Nat → List Nat
  | 0 => hs
  | i + 1 => stepL (rnd hs ks ws i) (addM 4294967296 (ks.getD i 0) (ws.getD i 0))
def addL : List Nat → List Nat → List Nat
  | a :: r, b :: q => addM 4294967296 a b :: addL r q
  | _, _ => []
def mixV (hs ks ws : List Nat) : List Nat := addL hs (rnd hs ks ws 64)
/-- The words of a block. -/
def wordsOf (b : List UInt8) : List Nat := (List.range 16).map fun j => getV b ((4 * j : Nat) : Int) 4

theorem eight {l : List Nat} (h : l.length = 8) : ∃ a b c d e f g i, l = [a, b, c, d, e, f, g, i] := by
  match l, h with
  | [a, b, c, d, e, f, g, i], _ => exact ⟨a, b, c, d, e, f, g, i, rfl⟩
theorem stepL_length {l : List Nat} (h : l.length = 8) (k : Nat) : (stepL l k).length = 8 := by
  obtain ⟨a, b, c, d, e, f, g, i, rfl⟩ := eight h
  rfl
theorem rnd_length {hs : List Nat} (h : hs.length = 8) (ks ws : List Nat) : ∀ i, (rnd hs ks ws i).length = 8 := by
  intro i
  induction i with
  | zero => exact h
  | succ i ih => exact stepL_length ih _
theorem addL_length : ∀ (x y : List Nat), x.length = y.length → (addL x y).length = x.length := by
  intro x
  induction x with
  | nil => intro y h; rfl
  | cons a r ih =>
    intro y h
    cases y with
    | nil => simp at h
    | cons b q => simp only [addL, List.length_cons, ih q (by simpa using h)]
theorem mixV_length {hs : List Nat} (h : hs.length = 8) (ks ws : List Nat) : (mixV hs ks ws).length = 8 := by
  unfold mixV; rw [addL_length _ _ (by rw [h, rnd_length h]), h]
theorem wordsOf_length (b : List UInt8) : (wordsOf b).length = 16 := by simp [wordsOf]

/-- Cells of an array that is filled from the left. -/
def part64 (l : List Nat) : List Value := l.map u32V ++ List.replicate (64 - l.length) (u32V 0)
theorem part64_length {l : List Nat} (h : l.length ≤ 64) : (part64 l).length = 64 := by simp [part64]; omega
theorem part64_get {l : List Nat} {j : Nat} (h : j < l.length) : (part64 l)[j]? = some (.int .u32 ((l.getD j 0 : Nat) : Int)) := by
  rw [part64, List.getElem?_append_left (by simpa using h), List.getElem?_map, List.getElem?_eq_getElem h]
  simp [List.getD, h, u32V]
theorem part64_set {l : List Nat} (h : l.length < 64) (v : Nat) : (part64 l).set l.length (u32V v) = part64 (l ++ [v]) := by
  unfold part64
  rw [List.set_append_right _ _ (by simp), List.length_map, Nat.sub_self, List.map_append, List.append_assoc]
  congr 1
  rw [show 64 - l.length = (64 - (l ++ [v]).length) + 1 by simp; omega, List.replicate_succ]
  rfl
theorem part64_full {l : List Nat} (h : l.length = 64) : part64 l = l.map u32V := by simp [part64, h]
theorem map_get {l : List Nat} {j : Nat} (h : j < l.length) : (l.map u32V)[j]? = some (.int .u32 ((l.getD j 0 : Nat) : Int)) := by
  rw [List.getElem?_map, List.getElem?_eq_getElem h]
  simp [List.getD, h, u32V]

theorem first_ok (w : World) : Ct Try.prog 65 #[] w (fun v w' => v = .agg (shaH.map u32V).toArray ∧ Ext w w') := by
  refine Ct.enter [] Try.func65 rfl rfl rfl rfl ?_
  refine C.seq ?_
  refine C.region ?_
  refine W.alloc (z := .agg (List.replicate 8 (u32V 0)).toArray) (List.replicate 8 (u32V 0)) (by kernel_rfl) rfl rfl ?_
  intro g0 w0 hg0 hX0 hB0
  refine W.nil ?_
  refine At.thenCode ?_
  refine C.seq ?_
  refine C.region ?_
  refine W.buildA (shaH.map u32V) (List.replicate 8 (u32V 0)) X32 Try.underlying116 (by kernel_rfl) rfl rfl (u32_oneCell _) rfl rfl ?_
  refine W.storeA (shaH.map u32V) rfl rfl hB0 rfl (by kernel_rfl) (u32_oneCell _) ?_
  intro w1 hc1 hB1
  refine W.nil ?_
  refine At.thenCode ?_
  refine C.ret ?_
  -- RESULT IN A CELL
  refine At.retC Try.results65 rfl (hB1.cells (o := 0)) Try.underlying116 rfl (by kernel_rfl) ⟨rfl, ?_⟩
  exact hX0.news hc1 (fun k hk => Or.inr (by omega))
theorem numbers_ok (w : World) : Ct Try.prog 66 #[] w (fun v w' => v = .agg (shaK.map u32V).toArray ∧ Ext w w') := by
  refine Ct.enter [] Try.func66 rfl rfl rfl rfl ?_
  refine C.seq ?_
  refine C.region ?_
  refine W.alloc (z := .agg (List.replicate 64 (u32V 0)).toArray) (List.replicate 64 (u32V 0)) (by kernel_rfl) rfl rfl ?_
  intro g0 w0 hg0 hX0 hB0
  refine W.nil ?_
  refine At.thenCode ?_
  refine C.seq ?_
  refine C.region ?_
  refine W.buildA (shaK.map u32V) (List.replicate 64 (u32V 0)) X32 Try.underlying118 (by kernel_rfl) rfl rfl (u32_oneCell _) rfl rfl ?_
  refine W.storeA (shaK.map u32V) rfl rfl hB0 rfl (by kernel_rfl) (u32_oneCell _) ?_
  intro w1 hc1 hB1
  refine W.nil ?_
  refine At.thenCode ?_
  refine C.ret ?_
  -- RESULT IN A CELL
  refine At.retC Try.results66 rfl (hB1.cells (o := 0)) Try.underlying118 rfl (by kernel_rfl) ⟨rfl, ?_⟩
  exact hX0.news hc1 (fun k hk => Or.inr (by omega))
theorem wordsOf_get (b : List UInt8) {i : Nat} (h : i < 16) : (wordsOf b).getD i 0 = getV b ((4 * i : Nat) : Int) 4 := by
  simp [wordsOf, List.getD, h]
theorem sch_low (ws : List Nat) {i : Nat} (h : i < 16) : sch ws (i + 1) = sch ws i ++ [ws.getD i 0] := by rw [sch, if_pos h]
theorem sch_high (ws : List Nat) {i : Nat} (h : ¬ i < 16) : sch ws (i + 1) = sch ws i ++ [nextW ((sch ws i).getD (i - 16) 0) ((sch ws i).getD (i - 15) 0) ((sch ws i).getD (i - 7) 0) ((sch ws i).getD (i - 2) 0)] := by rw [sch, if_neg h]
theorem addM_right (a b c d : Nat) : addM 4294967296 (addM 4294967296 (addM 4294967296 a b) c) d = addM 4294967296 (addM 4294967296 (addM 4294967296 a b) c) d := rfl

theorem schedule_ok (ao : Option Addr) (c : Nat) (xs : List UInt8) (w : World) (hS : Bs w ao c xs) (hl : xs.length ≤ 1099511627776) :
    Ct Try.prog 79 #[.slice ao xs.length c] w (fun v w' => v = .agg ((sch (wordsOf xs) 64).map u32V).toArray ∧ Ext w w') := by
  refine Ct.enter [(0, .slice ao xs.length c)] Try.func79 rfl rfl rfl rfl ?_
  obtain ⟨U, hW⟩ : ∃ U, U = wordsOf xs := ⟨_, rfl⟩
  rw [← hW]
  refine C.seq ?_
  refine C.region ?_
  refine W.alloc (z := .agg (List.replicate 64 (u32V 0)).toArray) (List.replicate 64 (u32V 0)) (by kernel_rfl) rfl rfl ?_
  intro g2 w2 hg2 hX2 hB2
  refine W.nil ?_
  refine At.thenCode ?_
  refine C.seq ?_
  refine C.region ?_
  refine W.alloc (z := .agg (List.replicate 64 (u32V 0)).toArray) (List.replicate 64 (u32V 0)) (by kernel_rfl) rfl rfl ?_
  intro g3 w3 hg3 hX3 hB3
  have hs2 := hX2.size
  have hl2 := hB2.lt
  have hne : g2 ≠ g3 := by omega
  refine W.nil ?_
  refine At.thenCode ?_
  refine C.seq ?_
  refine C.seq ?_
  refine C.region ?_
  refine W.move rfl rfl ?_
  refine W.nil ?_
  refine At.thenCode ?_
  refine C.block ?_
  refine C.loop (X := Nat) (fun x_ => [(0, .slice ao xs.length c), (2, .pointer (some ⟨g2, 0, none⟩)), (3, .pointer (some ⟨g3, 0, none⟩)), (9, .int .i64 (x_ : Int))]) (fun x_ w1 => Ext w w1 ∧ x_ ≤ 64 ∧ Bk w1 g2 (List.replicate 64 (u32V 0)) ∧ Bk w1 g3 (part64 (sch U x_))) (fun x_ => 64 - x_) (0) (Sub.cons (rfl) (Sub.cons (rfl) (Sub.cons (rfl) (Sub.cons (rfl) (Sub.nil))))) ?start1 ?_
  case start1 =>
    show Ext w _ ∧ (0) ≤ 64 ∧ Bk _ g2 (List.replicate 64 (u32V 0)) ∧ Bk _ g3 (part64 (sch U (0)))
    exact ⟨hX2.ext hX3, by omega, hB2.ext hX3, hB3⟩
  rintro i w1 hI_
  replace hI_ : Ext w w1 ∧ i ≤ 64 ∧ Bk w1 g2 (List.replicate 64 (u32V 0)) ∧ Bk w1 g3 (part64 (sch U i)) := hI_
  obtain ⟨hX1, hi, hB2, hB3⟩ := hI_
  refine C.weaken (l' := [(0, .slice ao xs.length c), (2, .pointer (some ⟨g2, 0, none⟩)), (3, .pointer (some ⟨g3, 0, none⟩)), (9, .int .i64 (i : Int))]) (Sub.cons (rfl) (Sub.cons (rfl) (Sub.cons (rfl) (Sub.cons (rfl) (Sub.nil))))) ?_
  refine C.seq ?_
  refine C.region ?_
  refine W.lssI rfl rfl rfl ?_
  refine W.nil ?_
  refine At.thenCode ?_
  refine C.seq ?_
  first | refine C.condD rfl (fun c10 => ?_) (fun c10 => ?_) | refine C.cond rfl (fun c10 => ?_) (fun c10 => ?_)
  · have hlen := sch_length U i
    refine C.skip ?_
    refine At.thenCode ?_
    refine C.seq ?_
    refine C.block ?_
    refine C.seq ?_
    refine C.region ?_
    refine W.move rfl rfl ?_
    refine W.assign rfl rfl ?_
    refine W.nil ?_
    refine At.thenCode ?_
    refine C.seq ?_
    refine C.seq ?_
    refine C.region ?_
    refine W.move rfl rfl ?_
    refine W.lssI rfl rfl rfl ?_
    refine W.nil ?_
    refine At.thenCode ?_
    first | refine C.condD rfl (fun c13 => ?_) (fun c13 => ?_) | refine C.cond rfl (fun c13 => ?_) (fun c13 => ?_)
    · refine C.seq ?_
      refine C.region ?_
      refine W.move rfl rfl ?_
      refine W.move rfl rfl ?_
      refine W.move rfl rfl ?_
      refine W.mulI rfl rfl (by omega) rfl ?_
      rw [show (4 : Int) * (i : Int) = ((4 * i : Nat) : Int) by omega]
      refine W.call Try.call41 rfl (Words.Get32_ok _ _ _ _ _ (hS.ext hX1) (by omega) (by omega)) rfl ?_
      rintro v w' ⟨rfl, rfl⟩
      rw [← wordsOf_get xs (by omega), ← hW]
      refine W.move rfl rfl ?_
      refine W.extract rfl rfl rfl ?_
      refine W.extract rfl rfl rfl ?_
      refine W.indexA1 Words.X32 Try.underlying118 rfl rfl (by first | omega | decide) rfl ?_
      refine W.store1 rfl rfl rfl hB3 (by rw [part64_length (by omega)]; omega) (by kernel_rfl) ?_
      intro w9 hc9 hB9
      have hB9' : Bk w9 g3 (part64 (sch U (i + 1))) := by
        have := part64_set (l := sch U i) (by omega) (U.getD i 0)
        rw [hlen] at this
        rw [sch_low U (by omega), ← this]
        exact hB9
      refine W.nil ?_
      refine At.thenCode ?_
      refine C.exit ?_
      refine At.thenExit ?_
      refine At.blockSelf ?_
      refine At.thenCode ?_
      refine C.region ?_
      first | refine W.addI rfl rfl (by omega) rfl ?_ | refine W.addW rfl rfl rfl ?_
      refine W.move rfl rfl ?_
      refine W.nil ?_
      refine At.thenRound (i + 1) (Sub.cons (rfl) (Sub.cons (rfl) (Sub.cons (rfl) (Sub.cons (look_eq rfl (by rw [show (i : Int) + 1 = ((i + 1 : Nat) : Int) by omega])) (Sub.nil))))) (show Ext w _ ∧ (i + 1) ≤ 64 ∧ Bk _ g2 (List.replicate 64 (u32V 0)) ∧ Bk _ g3 (part64 (sch U (i + 1))) from ?_) (show 64 - (i + 1) < 64 - i from ?_)
      · exact ⟨hX1.news hc9 (fun k hk => Or.inr (by omega)), by omega, hB2.chg hc9 (by omega), hB9'⟩
      · omega
    · refine C.skip ?_
      refine At.thenCode ?_
      refine C.seq ?_
      refine C.regionAny 10 ((fun v w => v = .int .i64 (i : Int)) :: (fun v w => v = .int .i64 ((i - 15 : Nat) : Int)) :: (fun v w => v = .pointer (some ⟨g3, (i - 15 : Nat), none⟩)) :: (fun v w => v = .int .u32 (((sch U i).getD (i - 15) 0 : Nat) : Int)) :: (fun v w => v = .int .i64 (i : Int)) :: (fun v w => v = .int .i64 ((i - 2 : Nat) : Int)) :: (fun v w => v = .pointer (some ⟨g3, (i - 2 : Nat), none⟩)) :: (fun v w => v = .int .u32 (((sch U i).getD (i - 2) 0 : Nat) : Int)) :: (fun v w => v = .int .u32 (((sch U i).getD (i - 15) 0 : Nat) : Int)) :: (fun v w => v = .int .u32 (((sch U i).getD (i - 2) 0 : Nat) : Int)) :: []) [(0, .slice ao xs.length c), (2, .pointer (some ⟨g2, 0, none⟩)), (3, .pointer (some ⟨g3, 0, none⟩)), (4, .int .i64 (i : Int)), (9, .int .i64 (i : Int))] [] (Sub.cons (rfl) (Sub.cons (rfl) (Sub.cons (rfl) (Sub.cons (rfl) (Sub.cons (rfl) (Sub.nil)))))) (Sub.nil) (Sub.cons (rfl) (Sub.cons (rfl) (Sub.cons (rfl) (Sub.cons (rfl) (Sub.cons (rfl) (Sub.nil)))))) (by kernel_rfl) rfl rfl rfl (And.intro (fun _ _ _ h _ => h) (And.intro (fun _ _ _ h _ => h) (And.intro (fun _ _ _ h _ => h) (And.intro (fun _ _ _ h _ => h) (And.intro (fun _ _ _ h _ => h) (And.intro (fun _ _ _ h _ => h) (And.intro (fun _ _ _ h _ => h) (And.intro (fun _ _ _ h _ => h) (And.intro (fun _ _ _ h _ => h) (And.intro (fun _ _ _ h _ => h) (trivial))))))))))) ?_ ?_
      · refine And.intro ?_ ?_
        · intro L_ w7 hX_ hs_ hf_ hd_
          refine W.step [(4, _)] (Sub.cons (hs_ _ _ rfl) (Sub.refl _)) ?_
          refine W.move rfl rfl ?_
          refine W.nil ?_
          exact At.step (Ext.refl _) rfl
        refine And.intro ?_ ?_
        · intro L_ w7 hX_ hs_ hf_ hd_
          obtain ⟨v0, e0, r0⟩ := hd_ 0 rfl
          obtain rfl : (.int .i64 (i : Int) : Value) = v0 := Eq.symm r0
          refine W.step [(23, _)] (Sub.cons (e0 _ rfl) (Sub.refl _)) ?_
          first | refine W.subI rfl rfl (by omega) rfl ?_ | refine W.subW rfl rfl rfl ?_
          rw [show (i : Int) - 15 = ((i - 15 : Nat) : Int) by omega]
          refine W.nil ?_
          exact At.step (Ext.refl _) rfl
        refine And.intro ?_ ?_
        · intro L_ w7 hX_ hs_ hf_ hd_
          obtain ⟨v1, e1, r1⟩ := hd_ 1 rfl
          obtain rfl : (.int .i64 ((i - 15 : Nat) : Int) : Value) = v1 := Eq.symm r1
          refine W.step [(3, _), (24, _)] (Sub.cons (hs_ _ _ rfl) (Sub.cons (e1 _ rfl) (Sub.refl _))) ?_
          refine W.indexA1 Words.X32 Try.underlying118 rfl rfl (by first | omega | decide) rfl ?_
          refine W.nil ?_
          exact At.step (Ext.refl _) rfl
        refine And.intro ?_ ?_
        · intro L_ w7 hX_ hs_ hf_ hd_
          obtain ⟨v2, e2, r2⟩ := hd_ 2 rfl
          obtain rfl : (.pointer (some ⟨g3, (i - 15 : Nat), none⟩) : Value) = v2 := Eq.symm r2
          refine W.step [(25, _)] (Sub.cons (e2 _ rfl) (Sub.refl _)) ?_
          refine W.loadB rfl Try.underlying90 rfl (hB3.ext hX_) (part64_get (by omega)) rfl ?_
          refine W.nil ?_
          exact At.step (Ext.refl _) rfl
        refine And.intro ?_ ?_
        · intro L_ w7 hX_ hs_ hf_ hd_
          refine W.step [(4, _)] (Sub.cons (hs_ _ _ rfl) (Sub.refl _)) ?_
          refine W.move rfl rfl ?_
          refine W.nil ?_
          exact At.step (Ext.refl _) rfl
        refine And.intro ?_ ?_
        · intro L_ w7 hX_ hs_ hf_ hd_
          obtain ⟨v4, e4, r4⟩ := hd_ 4 rfl
          obtain rfl : (.int .i64 (i : Int) : Value) = v4 := Eq.symm r4
          refine W.step [(27, _)] (Sub.cons (e4 _ rfl) (Sub.refl _)) ?_
          first | refine W.subI rfl rfl (by omega) rfl ?_ | refine W.subW rfl rfl rfl ?_
          rw [show (i : Int) - 2 = ((i - 2 : Nat) : Int) by omega]
          refine W.nil ?_
          exact At.step (Ext.refl _) rfl
        refine And.intro ?_ ?_
        · intro L_ w7 hX_ hs_ hf_ hd_
          obtain ⟨v5, e5, r5⟩ := hd_ 5 rfl
          obtain rfl : (.int .i64 ((i - 2 : Nat) : Int) : Value) = v5 := Eq.symm r5
          refine W.step [(3, _), (28, _)] (Sub.cons (hs_ _ _ rfl) (Sub.cons (e5 _ rfl) (Sub.refl _))) ?_
          refine W.indexA1 Words.X32 Try.underlying118 rfl rfl (by first | omega | decide) rfl ?_
          refine W.nil ?_
          exact At.step (Ext.refl _) rfl
        refine And.intro ?_ ?_
        · intro L_ w7 hX_ hs_ hf_ hd_
          obtain ⟨v6, e6, r6⟩ := hd_ 6 rfl
          obtain rfl : (.pointer (some ⟨g3, (i - 2 : Nat), none⟩) : Value) = v6 := Eq.symm r6
          refine W.step [(29, _)] (Sub.cons (e6 _ rfl) (Sub.refl _)) ?_
          refine W.loadB rfl Try.underlying90 rfl (hB3.ext hX_) (part64_get (by omega)) rfl ?_
          refine W.nil ?_
          exact At.step (Ext.refl _) rfl
        refine And.intro ?_ ?_
        · intro L_ w7 hX_ hs_ hf_ hd_
          obtain ⟨v3, e3, r3⟩ := hd_ 3 rfl
          obtain rfl : (.int .u32 (((sch U i).getD (i - 15) 0 : Nat) : Int) : Value) = v3 := Eq.symm r3
          refine W.step [(26, _)] (Sub.cons (e3 _ rfl) (Sub.refl _)) ?_
          refine W.assign rfl rfl ?_
          refine W.nil ?_
          exact At.step (Ext.refl _) rfl
        refine And.intro ?_ ?_
        · intro L_ w7 hX_ hs_ hf_ hd_
          obtain ⟨v7, e7, r7⟩ := hd_ 7 rfl
          obtain rfl : (.int .u32 (((sch U i).getD (i - 2) 0 : Nat) : Int) : Value) = v7 := Eq.symm r7
          refine W.step [(30, _)] (Sub.cons (e7 _ rfl) (Sub.refl _)) ?_
          refine W.assign rfl rfl ?_
          refine W.nil ?_
          exact At.step (Ext.refl _) rfl
        exact trivial
      · intro L_ w7 hX7 hs_ hv_
        obtain ⟨v8, e8, r8⟩ := hv_ 8 (by decide)
        obtain rfl : (.int .u32 (((sch U i).getD (i - 15) 0 : Nat) : Int) : Value) = v8 := Eq.symm r8
        obtain ⟨v9, e9, r9⟩ := hv_ 9 (by decide)
        obtain rfl : (.int .u32 (((sch U i).getD (i - 2) 0 : Nat) : Int) : Value) = v9 := Eq.symm r9
        refine W.weaken (l' := [(5, _), (6, _), (0, _), (2, _), (3, _), (4, _), (9, _)]) (Sub.cons (e8 _ rfl) (Sub.cons (e9 _ rfl) (Sub.cons (hs_ _ _ rfl) (Sub.cons (hs_ _ _ rfl) (Sub.cons (hs_ _ _ rfl) (Sub.cons (hs_ _ _ rfl) (Sub.cons (hs_ _ _ rfl) (Sub.nil)))))))) ?_
        refine W.nil ?_
        refine At.thenCode ?_
        refine C.seq ?_
        refine C.region ?_
        have hB3 := hB3.ext hX7
        have hB2 := hB2.ext hX7
        have hX1 := hX1.ext hX7
        refine W.move rfl rfl ?_
        refine W.call Try.call86 rfl (Words.Rot_ok _ _ _) rfl ?_
        rintro v w' ⟨rfl, rfl⟩
        refine W.move rfl rfl ?_
        refine W.call Try.call86 rfl (Words.Rot_ok _ _ _) rfl ?_
        rintro v w' ⟨rfl, rfl⟩
        refine W.xorU (M := 4294967296) rfl rfl rfl rfl rfl ?_
        refine W.move rfl rfl ?_
        refine W.shrU (B := 32) (s := 3) rfl rfl rfl rfl ?_
        refine W.xorU (M := 4294967296) rfl rfl rfl rfl rfl ?_
        refine W.assign rfl rfl ?_
        refine W.nil ?_
        refine At.thenCode ?_
        refine C.seq ?_
        refine C.region ?_
        refine W.move rfl rfl ?_
        refine W.call Try.call86 rfl (Words.Rot_ok _ _ _) rfl ?_
        rintro v w' ⟨rfl, rfl⟩
        refine W.move rfl rfl ?_
        refine W.call Try.call86 rfl (Words.Rot_ok _ _ _) rfl ?_
        rintro v w' ⟨rfl, rfl⟩
        refine W.xorU (M := 4294967296) rfl rfl rfl rfl rfl ?_
        refine W.move rfl rfl ?_
        refine W.shrU (B := 32) (s := 10) rfl rfl rfl rfl ?_
        refine W.xorU (M := 4294967296) rfl rfl rfl rfl rfl ?_
        refine W.assign rfl rfl ?_
        refine W.nil ?_
        refine At.thenCode ?_
        refine C.regionAny 15 ((fun v w => v = .int .i64 (i : Int)) :: (fun v w => v = .int .i64 (i : Int)) :: (fun v w => v = .int .i64 ((i - 16 : Nat) : Int)) :: (fun v w => v = .pointer (some ⟨g3, (i - 16 : Nat), none⟩)) :: (fun v w => v = .int .u32 (((sch U i).getD (i - 16) 0 : Nat) : Int)) :: (fun v w => v = .int .u32 ((xorM 4294967296 (xorM 4294967296 (rotV ((sch U i).getD (i - 15) 0) 7) (rotV ((sch U i).getD (i - 15) 0) 18)) (shrM 32 ((sch U i).getD (i - 15) 0) 3) : Nat) : Int)) :: (fun v w => v = .int .u32 ((addM 4294967296 ((sch U i).getD (i - 16) 0) (xorM 4294967296 (xorM 4294967296 (rotV ((sch U i).getD (i - 15) 0) 7) (rotV ((sch U i).getD (i - 15) 0) 18)) (shrM 32 ((sch U i).getD (i - 15) 0) 3)) : Nat) : Int)) :: (fun v w => v = .int .i64 (i : Int)) :: (fun v w => v = .int .i64 ((i - 7 : Nat) : Int)) :: (fun v w => v = .pointer (some ⟨g3, (i - 7 : Nat), none⟩)) :: (fun v w => v = .int .u32 (((sch U i).getD (i - 7) 0 : Nat) : Int)) :: (fun v w => v = .int .u32 ((addM 4294967296 (addM 4294967296 ((sch U i).getD (i - 16) 0) (xorM 4294967296 (xorM 4294967296 (rotV ((sch U i).getD (i - 15) 0) 7) (rotV ((sch U i).getD (i - 15) 0) 18)) (shrM 32 ((sch U i).getD (i - 15) 0) 3))) ((sch U i).getD (i - 7) 0) : Nat) : Int)) :: (fun v w => v = .int .u32 ((xorM 4294967296 (xorM 4294967296 (rotV ((sch U i).getD (i - 2) 0) 17) (rotV ((sch U i).getD (i - 2) 0) 19)) (shrM 32 ((sch U i).getD (i - 2) 0) 10) : Nat) : Int)) :: (fun v w => v = .int .u32 ((nextW ((sch U i).getD (i - 16) 0) ((sch U i).getD (i - 15) 0) ((sch U i).getD (i - 7) 0) ((sch U i).getD (i - 2) 0) : Nat) : Int)) :: (fun v w => v = .pointer (some ⟨g3, i, none⟩)) :: []) [(0, .slice ao xs.length c), (2, .pointer (some ⟨g2, 0, none⟩)), (3, .pointer (some ⟨g3, 0, none⟩)), (4, .int .i64 (i : Int)), (9, .int .i64 (i : Int)), (7, .int .u32 ((xorM 4294967296 (xorM 4294967296 (rotV ((sch U i).getD (i - 15) 0) 7) (rotV ((sch U i).getD (i - 15) 0) 18)) (shrM 32 ((sch U i).getD (i - 15) 0) 3) : Nat) : Int)), (8, .int .u32 ((xorM 4294967296 (xorM 4294967296 (rotV ((sch U i).getD (i - 2) 0) 17) (rotV ((sch U i).getD (i - 2) 0) 19)) (shrM 32 ((sch U i).getD (i - 2) 0) 10) : Nat) : Int))] [] (Sub.cons (rfl) (Sub.cons (rfl) (Sub.cons (rfl) (Sub.cons (rfl) (Sub.cons (rfl) (Sub.cons (rfl) (Sub.cons (rfl) (Sub.nil)))))))) (Sub.nil) (Sub.cons (rfl) (Sub.cons (rfl) (Sub.cons (rfl) (Sub.cons (rfl) (Sub.cons (rfl) (Sub.cons (rfl) (Sub.cons (rfl) (Sub.nil)))))))) (by kernel_rfl) rfl rfl rfl (And.intro (fun _ _ _ h _ => h) (And.intro (fun _ _ _ h _ => h) (And.intro (fun _ _ _ h _ => h) (And.intro (fun _ _ _ h _ => h) (And.intro (fun _ _ _ h _ => h) (And.intro (fun _ _ _ h _ => h) (And.intro (fun _ _ _ h _ => h) (And.intro (fun _ _ _ h _ => h) (And.intro (fun _ _ _ h _ => h) (And.intro (fun _ _ _ h _ => h) (And.intro (fun _ _ _ h _ => h) (And.intro (fun _ _ _ h _ => h) (And.intro (fun _ _ _ h _ => h) (And.intro (fun _ _ _ h _ => h) (And.intro (fun _ _ _ h _ => h) (trivial)))))))))))))))) ?_ ?_
        · refine And.intro ?_ ?_
          · intro L_ w10 hX_ hs_ hf_ hd_
            refine W.step [(4, _)] (Sub.cons (hs_ _ _ rfl) (Sub.refl _)) ?_
            refine W.move rfl rfl ?_
            refine W.nil ?_
            exact At.step (Ext.refl _) rfl
          refine And.intro ?_ ?_
          · intro L_ w10 hX_ hs_ hf_ hd_
            refine W.step [(4, _)] (Sub.cons (hs_ _ _ rfl) (Sub.refl _)) ?_
            refine W.move rfl rfl ?_
            refine W.nil ?_
            exact At.step (Ext.refl _) rfl
          refine And.intro ?_ ?_
          · intro L_ w10 hX_ hs_ hf_ hd_
            obtain ⟨v1, e1, r1⟩ := hd_ 1 rfl
            obtain rfl : (.int .i64 (i : Int) : Value) = v1 := Eq.symm r1
            refine W.step [(48, _)] (Sub.cons (e1 _ rfl) (Sub.refl _)) ?_
            first | refine W.subI rfl rfl (by omega) rfl ?_ | refine W.subW rfl rfl rfl ?_
            rw [show (i : Int) - 16 = ((i - 16 : Nat) : Int) by omega]
            refine W.nil ?_
            exact At.step (Ext.refl _) rfl
          refine And.intro ?_ ?_
          · intro L_ w10 hX_ hs_ hf_ hd_
            obtain ⟨v2, e2, r2⟩ := hd_ 2 rfl
            obtain rfl : (.int .i64 ((i - 16 : Nat) : Int) : Value) = v2 := Eq.symm r2
            refine W.step [(3, _), (49, _)] (Sub.cons (hs_ _ _ rfl) (Sub.cons (e2 _ rfl) (Sub.refl _))) ?_
            refine W.indexA1 Words.X32 Try.underlying118 rfl rfl (by first | omega | decide) rfl ?_
            refine W.nil ?_
            exact At.step (Ext.refl _) rfl
          refine And.intro ?_ ?_
          · intro L_ w10 hX_ hs_ hf_ hd_
            obtain ⟨v3, e3, r3⟩ := hd_ 3 rfl
            obtain rfl : (.pointer (some ⟨g3, (i - 16 : Nat), none⟩) : Value) = v3 := Eq.symm r3
            refine W.step [(50, _)] (Sub.cons (e3 _ rfl) (Sub.refl _)) ?_
            refine W.loadB rfl Try.underlying90 rfl (hB3.ext hX_) (part64_get (by omega)) rfl ?_
            refine W.nil ?_
            exact At.step (Ext.refl _) rfl
          refine And.intro ?_ ?_
          · intro L_ w10 hX_ hs_ hf_ hd_
            refine W.step [(7, _)] (Sub.cons (hs_ _ _ rfl) (Sub.refl _)) ?_
            refine W.move rfl rfl ?_
            refine W.nil ?_
            exact At.step (Ext.refl _) rfl
          refine And.intro ?_ ?_
          · intro L_ w10 hX_ hs_ hf_ hd_
            obtain ⟨v4, e4, r4⟩ := hd_ 4 rfl
            obtain rfl : (.int .u32 (((sch U i).getD (i - 16) 0 : Nat) : Int) : Value) = v4 := Eq.symm r4
            obtain ⟨v5, e5, r5⟩ := hd_ 5 rfl
            obtain rfl : (.int .u32 ((xorM 4294967296 (xorM 4294967296 (rotV ((sch U i).getD (i - 15) 0) 7) (rotV ((sch U i).getD (i - 15) 0) 18)) (shrM 32 ((sch U i).getD (i - 15) 0) 3) : Nat) : Int) : Value) = v5 := Eq.symm r5
            refine W.step [(51, _), (52, _)] (Sub.cons (e4 _ rfl) (Sub.cons (e5 _ rfl) (Sub.refl _))) ?_
            refine W.addU (M := 4294967296) rfl rfl rfl rfl rfl ?_
            refine W.nil ?_
            exact At.step (Ext.refl _) rfl
          refine And.intro ?_ ?_
          · intro L_ w10 hX_ hs_ hf_ hd_
            refine W.step [(4, _)] (Sub.cons (hs_ _ _ rfl) (Sub.refl _)) ?_
            refine W.move rfl rfl ?_
            refine W.nil ?_
            exact At.step (Ext.refl _) rfl
          refine And.intro ?_ ?_
          · intro L_ w10 hX_ hs_ hf_ hd_
            obtain ⟨v7, e7, r7⟩ := hd_ 7 rfl
            obtain rfl : (.int .i64 (i : Int) : Value) = v7 := Eq.symm r7
            refine W.step [(54, _)] (Sub.cons (e7 _ rfl) (Sub.refl _)) ?_
            first | refine W.subI rfl rfl (by omega) rfl ?_ | refine W.subW rfl rfl rfl ?_
            rw [show (i : Int) - 7 = ((i - 7 : Nat) : Int) by omega]
            refine W.nil ?_
            exact At.step (Ext.refl _) rfl
          refine And.intro ?_ ?_
          · intro L_ w10 hX_ hs_ hf_ hd_
            obtain ⟨v8, e8, r8⟩ := hd_ 8 rfl
            obtain rfl : (.int .i64 ((i - 7 : Nat) : Int) : Value) = v8 := Eq.symm r8
            refine W.step [(3, _), (55, _)] (Sub.cons (hs_ _ _ rfl) (Sub.cons (e8 _ rfl) (Sub.refl _))) ?_
            refine W.indexA1 Words.X32 Try.underlying118 rfl rfl (by first | omega | decide) rfl ?_
            refine W.nil ?_
            exact At.step (Ext.refl _) rfl
          refine And.intro ?_ ?_
          · intro L_ w10 hX_ hs_ hf_ hd_
            obtain ⟨v9, e9, r9⟩ := hd_ 9 rfl
            obtain rfl : (.pointer (some ⟨g3, (i - 7 : Nat), none⟩) : Value) = v9 := Eq.symm r9
            refine W.step [(56, _)] (Sub.cons (e9 _ rfl) (Sub.refl _)) ?_
            refine W.loadB rfl Try.underlying90 rfl (hB3.ext hX_) (part64_get (by omega)) rfl ?_
            refine W.nil ?_
            exact At.step (Ext.refl _) rfl
          refine And.intro ?_ ?_
          · intro L_ w10 hX_ hs_ hf_ hd_
            obtain ⟨v6, e6, r6⟩ := hd_ 6 rfl
            obtain rfl : (.int .u32 ((addM 4294967296 ((sch U i).getD (i - 16) 0) (xorM 4294967296 (xorM 4294967296 (rotV ((sch U i).getD (i - 15) 0) 7) (rotV ((sch U i).getD (i - 15) 0) 18)) (shrM 32 ((sch U i).getD (i - 15) 0) 3)) : Nat) : Int) : Value) = v6 := Eq.symm r6
            obtain ⟨v10, e10, r10⟩ := hd_ 10 rfl
            obtain rfl : (.int .u32 (((sch U i).getD (i - 7) 0 : Nat) : Int) : Value) = v10 := Eq.symm r10
            refine W.step [(53, _), (57, _)] (Sub.cons (e6 _ rfl) (Sub.cons (e10 _ rfl) (Sub.refl _))) ?_
            refine W.addU (M := 4294967296) rfl rfl rfl rfl rfl ?_
            refine W.nil ?_
            exact At.step (Ext.refl _) rfl
          refine And.intro ?_ ?_
          · intro L_ w10 hX_ hs_ hf_ hd_
            refine W.step [(8, _)] (Sub.cons (hs_ _ _ rfl) (Sub.refl _)) ?_
            refine W.move rfl rfl ?_
            refine W.nil ?_
            exact At.step (Ext.refl _) rfl
          refine And.intro ?_ ?_
          · intro L_ w10 hX_ hs_ hf_ hd_
            obtain ⟨v11, e11, r11⟩ := hd_ 11 rfl
            obtain rfl : (.int .u32 ((addM 4294967296 (addM 4294967296 ((sch U i).getD (i - 16) 0) (xorM 4294967296 (xorM 4294967296 (rotV ((sch U i).getD (i - 15) 0) 7) (rotV ((sch U i).getD (i - 15) 0) 18)) (shrM 32 ((sch U i).getD (i - 15) 0) 3))) ((sch U i).getD (i - 7) 0) : Nat) : Int) : Value) = v11 := Eq.symm r11
            obtain ⟨v12, e12, r12⟩ := hd_ 12 rfl
            obtain rfl : (.int .u32 ((xorM 4294967296 (xorM 4294967296 (rotV ((sch U i).getD (i - 2) 0) 17) (rotV ((sch U i).getD (i - 2) 0) 19)) (shrM 32 ((sch U i).getD (i - 2) 0) 10) : Nat) : Int) : Value) = v12 := Eq.symm r12
            refine W.step [(58, _), (59, _)] (Sub.cons (e11 _ rfl) (Sub.cons (e12 _ rfl) (Sub.refl _))) ?_
            refine W.addU (M := 4294967296) rfl rfl rfl rfl rfl ?_
            refine W.nil ?_
            exact At.step (Ext.refl _) rfl
          refine And.intro ?_ ?_
          · intro L_ w10 hX_ hs_ hf_ hd_
            obtain ⟨v0, e0, r0⟩ := hd_ 0 rfl
            obtain rfl : (.int .i64 (i : Int) : Value) = v0 := Eq.symm r0
            refine W.step [(3, _), (47, _)] (Sub.cons (hs_ _ _ rfl) (Sub.cons (e0 _ rfl) (Sub.refl _))) ?_
            refine W.indexA1 Words.X32 Try.underlying118 rfl rfl (by first | omega | decide) rfl ?_
            refine W.nil ?_
            exact At.step (Ext.refl _) rfl
          exact trivial
        · intro L_ w10 hX10 hs_ hv_
          obtain ⟨v14, e14, r14⟩ := hv_ 14 (by decide)
          obtain rfl : (.pointer (some ⟨g3, i, none⟩) : Value) = v14 := Eq.symm r14
          obtain ⟨v13, e13, r13⟩ := hv_ 13 (by decide)
          obtain rfl : (.int .u32 ((nextW ((sch U i).getD (i - 16) 0) ((sch U i).getD (i - 15) 0) ((sch U i).getD (i - 7) 0) ((sch U i).getD (i - 2) 0) : Nat) : Int) : Value) = v13 := Eq.symm r13
          refine W.weaken (l' := [(61, _), (60, _), (0, _), (2, _), (3, _), (4, _), (9, _), (7, _), (8, _)]) (Sub.cons (e14 _ rfl) (Sub.cons (e13 _ rfl) (Sub.cons (hs_ _ _ rfl) (Sub.cons (hs_ _ _ rfl) (Sub.cons (hs_ _ _ rfl) (Sub.cons (hs_ _ _ rfl) (Sub.cons (hs_ _ _ rfl) (Sub.cons (hs_ _ _ rfl) (Sub.cons (hs_ _ _ rfl) (Sub.nil)))))))))) ?_
          refine W.store1 rfl rfl rfl (hB3.ext hX10) (by rw [part64_length (by omega)]; omega) (by kernel_rfl) ?_
          intro w9 hc9 hB9
          have hB9' : Bk w9 g3 (part64 (sch U (i + 1))) := by
            have := part64_set (l := sch U i) (by omega) (nextW ((sch U i).getD (i - 16) 0) ((sch U i).getD (i - 15) 0) ((sch U i).getD (i - 7) 0) ((sch U i).getD (i - 2) 0))
            rw [hlen] at this
            rw [sch_high U (by omega), ← this]
            exact hB9
          refine W.nil ?_
          refine At.blockNormal ?_
          refine At.thenCode ?_
          refine C.region ?_
          first | refine W.addI rfl rfl (by omega) rfl ?_ | refine W.addW rfl rfl rfl ?_
          refine W.move rfl rfl ?_
          refine W.nil ?_
          refine At.thenRound (i + 1) (Sub.cons (rfl) (Sub.cons (rfl) (Sub.cons (rfl) (Sub.cons (look_eq rfl (by rw [show (i : Int) + 1 = ((i + 1 : Nat) : Int) by omega])) (Sub.nil))))) (show Ext w _ ∧ (i + 1) ≤ 64 ∧ Bk _ g2 (List.replicate 64 (u32V 0)) ∧ Bk _ g3 (part64 (sch U (i + 1))) from ?_) (show 64 - (i + 1) < 64 - i from ?_)
          · exact ⟨(hX1.ext hX10).news hc9 (fun k hk => Or.inr (by omega)), by omega, (hB2.ext hX10).chg hc9 (by omega), hB9'⟩
          · omega
  · refine C.exit ?_
    refine At.thenExit ?_
    refine At.thenExit ?_
    refine At.blockSelf ?_
    refine At.thenCode ?_
    refine C.seq ?_
    refine C.region ?_
    obtain rfl : i = 64 := by omega
    rw [part64_full (sch_length U 64)] at hB3
    refine W.loadA rfl (hB3.cells (o := 0)) Try.underlying118 rfl (by rw [List.drop_zero, List.length_map, sch_length]; kernel_rfl) rfl ?_
    refine W.storeA ((sch U 64).map u32V) rfl rfl hB2 (by rw [List.length_map, sch_length]; rfl) (by rw [List.length_map, sch_length]; kernel_rfl) (u32_oneCell _) ?_
    intro wz hcz hBz
    refine W.nil ?_
    refine At.thenCode ?_
    refine C.ret ?_
    -- RESULT IN A CELL
    refine At.retC Try.results79 rfl (hBz.cells (o := 0)) Try.underlying118 rfl (by rw [List.drop_zero, List.length_map, sch_length]; kernel_rfl) ⟨rfl, ?_⟩
    exact hX1.news hcz (fun k hk => Or.inr (by omega))
theorem step_ok (a b c d e f g h k : Nat) (w : World) :
    Ct Try.prog 80 #[.agg ([a, b, c, d, e, f, g, h].map u32V).toArray, .int .u32 (k : Int)] w (fun v w' => v = .agg ((stepL [a, b, c, d, e, f, g, h] k).map u32V).toArray ∧ Ext w w') := by
  refine Ct.enter [(0, .agg ([a, b, c, d, e, f, g, h].map u32V).toArray), (1, .int .u32 (k : Int))] Try.func80 rfl rfl rfl rfl ?_
  refine C.seq ?_
  refine C.region ?_
  refine W.box ([a, b, c, d, e, f, g, h].map u32V) rfl rfl rfl ?_
  intro g2 w2 hg2 hX2 hB2
  refine W.alloc (z := .agg (List.replicate 8 (u32V 0)).toArray) (List.replicate 8 (u32V 0)) (by kernel_rfl) rfl rfl ?_
  intro g4 w4 hg4 hX4 hB4
  have hs2 := hX2.size
  have hl2 := hB2.lt
  have hne : g2 ≠ g4 := by omega
  have hB2 := hB2.ext hX4
  refine W.nil ?_
  refine At.thenCode ?_
  refine C.seq ?_
  refine C.regionAny 18 ((fun v w => v = .pointer (some ⟨g2, 0, none⟩)) :: (fun v w => v = .int .u32 (a : Int)) :: (fun v w => v = .pointer (some ⟨g2, 1, none⟩)) :: (fun v w => v = .int .u32 (b : Int)) :: (fun v w => v = .pointer (some ⟨g2, 2, none⟩)) :: (fun v w => v = .int .u32 (c : Int)) :: (fun v w => v = .pointer (some ⟨g2, 4, none⟩)) :: (fun v w => v = .int .u32 (e : Int)) :: (fun v w => v = .pointer (some ⟨g2, 5, none⟩)) :: (fun v w => v = .int .u32 (f : Int)) :: (fun v w => v = .pointer (some ⟨g2, 6, none⟩)) :: (fun v w => v = .int .u32 (g : Int)) :: (fun v w => v = .int .u32 (a : Int)) :: (fun v w => v = .int .u32 (b : Int)) :: (fun v w => v = .int .u32 (c : Int)) :: (fun v w => v = .int .u32 (e : Int)) :: (fun v w => v = .int .u32 (f : Int)) :: (fun v w => v = .int .u32 (g : Int)) :: []) [(1, .int .u32 (k : Int)), (2, .pointer (some ⟨g2, 0, none⟩)), (4, .pointer (some ⟨g4, 0, none⟩))] [] (Sub.cons (rfl) (Sub.cons (rfl) (Sub.cons (rfl) (Sub.nil)))) (Sub.nil) (Sub.cons (rfl) (Sub.cons (rfl) (Sub.cons (rfl) (Sub.nil)))) (by kernel_rfl) rfl rfl rfl (And.intro (fun _ _ _ h _ => h) (And.intro (fun _ _ _ h _ => h) (And.intro (fun _ _ _ h _ => h) (And.intro (fun _ _ _ h _ => h) (And.intro (fun _ _ _ h _ => h) (And.intro (fun _ _ _ h _ => h) (And.intro (fun _ _ _ h _ => h) (And.intro (fun _ _ _ h _ => h) (And.intro (fun _ _ _ h _ => h) (And.intro (fun _ _ _ h _ => h) (And.intro (fun _ _ _ h _ => h) (And.intro (fun _ _ _ h _ => h) (And.intro (fun _ _ _ h _ => h) (And.intro (fun _ _ _ h _ => h) (And.intro (fun _ _ _ h _ => h) (And.intro (fun _ _ _ h _ => h) (And.intro (fun _ _ _ h _ => h) (And.intro (fun _ _ _ h _ => h) (trivial))))))))))))))))))) ?_ ?_
  · refine And.intro ?_ ?_
    · intro L_ w1 hX_ hs_ hf_ hd_
      refine W.step [(2, _)] (Sub.cons (hs_ _ _ rfl) (Sub.refl _)) ?_
      refine W.indexA1 (j := 0) Words.X32 Try.underlying116 rfl rfl (by first | omega | decide) rfl ?_
      refine W.nil ?_
      exact At.step (Ext.refl _) rfl
    refine And.intro ?_ ?_
    · intro L_ w1 hX_ hs_ hf_ hd_
      obtain ⟨v0, e0, r0⟩ := hd_ 0 rfl
      obtain rfl : (.pointer (some ⟨g2, 0, none⟩) : Value) = v0 := Eq.symm r0
      refine W.step [(15, _)] (Sub.cons (e0 _ rfl) (Sub.refl _)) ?_
      refine W.loadB rfl Try.underlying90 rfl (by first | exact Bk.ext (by assumption) hX_ | exact GP.bkOld hX_ (by assumption) (by omega) (by omega) | exact Bk.chg (by assumption) hX_.1 (by omega) | exact Bk.chg (by assumption) hX_ (by rintro ⟨q_, h1_, h2_, h3_⟩; omega)) rfl rfl ?_
      refine W.nil ?_
      exact At.step (Ext.refl _) rfl
    refine And.intro ?_ ?_
    · intro L_ w1 hX_ hs_ hf_ hd_
      refine W.step [(2, _)] (Sub.cons (hs_ _ _ rfl) (Sub.refl _)) ?_
      refine W.indexA1 (j := 1) Words.X32 Try.underlying116 rfl rfl (by first | omega | decide) rfl ?_
      refine W.nil ?_
      exact At.step (Ext.refl _) rfl
    refine And.intro ?_ ?_
    · intro L_ w1 hX_ hs_ hf_ hd_
      obtain ⟨v2, e2, r2⟩ := hd_ 2 rfl
      obtain rfl : (.pointer (some ⟨g2, 1, none⟩) : Value) = v2 := Eq.symm r2
      refine W.step [(17, _)] (Sub.cons (e2 _ rfl) (Sub.refl _)) ?_
      refine W.loadB rfl Try.underlying90 rfl (by first | exact Bk.ext (by assumption) hX_ | exact GP.bkOld hX_ (by assumption) (by omega) (by omega) | exact Bk.chg (by assumption) hX_.1 (by omega) | exact Bk.chg (by assumption) hX_ (by rintro ⟨q_, h1_, h2_, h3_⟩; omega)) rfl rfl ?_
      refine W.nil ?_
      exact At.step (Ext.refl _) rfl
    refine And.intro ?_ ?_
    · intro L_ w1 hX_ hs_ hf_ hd_
      refine W.step [(2, _)] (Sub.cons (hs_ _ _ rfl) (Sub.refl _)) ?_
      refine W.indexA1 (j := 2) Words.X32 Try.underlying116 rfl rfl (by first | omega | decide) rfl ?_
      refine W.nil ?_
      exact At.step (Ext.refl _) rfl
    refine And.intro ?_ ?_
    · intro L_ w1 hX_ hs_ hf_ hd_
      obtain ⟨v4, e4, r4⟩ := hd_ 4 rfl
      obtain rfl : (.pointer (some ⟨g2, 2, none⟩) : Value) = v4 := Eq.symm r4
      refine W.step [(19, _)] (Sub.cons (e4 _ rfl) (Sub.refl _)) ?_
      refine W.loadB rfl Try.underlying90 rfl (by first | exact Bk.ext (by assumption) hX_ | exact GP.bkOld hX_ (by assumption) (by omega) (by omega) | exact Bk.chg (by assumption) hX_.1 (by omega) | exact Bk.chg (by assumption) hX_ (by rintro ⟨q_, h1_, h2_, h3_⟩; omega)) rfl rfl ?_
      refine W.nil ?_
      exact At.step (Ext.refl _) rfl
    refine And.intro ?_ ?_
    · intro L_ w1 hX_ hs_ hf_ hd_
      refine W.step [(2, _)] (Sub.cons (hs_ _ _ rfl) (Sub.refl _)) ?_
      refine W.indexA1 (j := 4) Words.X32 Try.underlying116 rfl rfl (by first | omega | decide) rfl ?_
      refine W.nil ?_
      exact At.step (Ext.refl _) rfl
    refine And.intro ?_ ?_
    · intro L_ w1 hX_ hs_ hf_ hd_
      obtain ⟨v6, e6, r6⟩ := hd_ 6 rfl
      obtain rfl : (.pointer (some ⟨g2, 4, none⟩) : Value) = v6 := Eq.symm r6
      refine W.step [(21, _)] (Sub.cons (e6 _ rfl) (Sub.refl _)) ?_
      refine W.loadB rfl Try.underlying90 rfl (by first | exact Bk.ext (by assumption) hX_ | exact GP.bkOld hX_ (by assumption) (by omega) (by omega) | exact Bk.chg (by assumption) hX_.1 (by omega) | exact Bk.chg (by assumption) hX_ (by rintro ⟨q_, h1_, h2_, h3_⟩; omega)) rfl rfl ?_
      refine W.nil ?_
      exact At.step (Ext.refl _) rfl
    refine And.intro ?_ ?_
    · intro L_ w1 hX_ hs_ hf_ hd_
      refine W.step [(2, _)] (Sub.cons (hs_ _ _ rfl) (Sub.refl _)) ?_
      refine W.indexA1 (j := 5) Words.X32 Try.underlying116 rfl rfl (by first | omega | decide) rfl ?_
      refine W.nil ?_
      exact At.step (Ext.refl _) rfl
    refine And.intro ?_ ?_
    · intro L_ w1 hX_ hs_ hf_ hd_
      obtain ⟨v8, e8, r8⟩ := hd_ 8 rfl
      obtain rfl : (.pointer (some ⟨g2, 5, none⟩) : Value) = v8 := Eq.symm r8
      refine W.step [(23, _)] (Sub.cons (e8 _ rfl) (Sub.refl _)) ?_
      refine W.loadB rfl Try.underlying90 rfl (by first | exact Bk.ext (by assumption) hX_ | exact GP.bkOld hX_ (by assumption) (by omega) (by omega) | exact Bk.chg (by assumption) hX_.1 (by omega) | exact Bk.chg (by assumption) hX_ (by rintro ⟨q_, h1_, h2_, h3_⟩; omega)) rfl rfl ?_
      refine W.nil ?_
      exact At.step (Ext.refl _) rfl
    refine And.intro ?_ ?_
    · intro L_ w1 hX_ hs_ hf_ hd_
      refine W.step [(2, _)] (Sub.cons (hs_ _ _ rfl) (Sub.refl _)) ?_
      refine W.indexA1 (j := 6) Words.X32 Try.underlying116 rfl rfl (by first | omega | decide) rfl ?_
      refine W.nil ?_
      exact At.step (Ext.refl _) rfl
    refine And.intro ?_ ?_
    · intro L_ w1 hX_ hs_ hf_ hd_
      obtain ⟨v10, e10, r10⟩ := hd_ 10 rfl
      obtain rfl : (.pointer (some ⟨g2, 6, none⟩) : Value) = v10 := Eq.symm r10
      refine W.step [(25, _)] (Sub.cons (e10 _ rfl) (Sub.refl _)) ?_
      refine W.loadB rfl Try.underlying90 rfl (by first | exact Bk.ext (by assumption) hX_ | exact GP.bkOld hX_ (by assumption) (by omega) (by omega) | exact Bk.chg (by assumption) hX_.1 (by omega) | exact Bk.chg (by assumption) hX_ (by rintro ⟨q_, h1_, h2_, h3_⟩; omega)) rfl rfl ?_
      refine W.nil ?_
      exact At.step (Ext.refl _) rfl
    refine And.intro ?_ ?_
    · intro L_ w1 hX_ hs_ hf_ hd_
      obtain ⟨v1, e1, r1⟩ := hd_ 1 rfl
      obtain rfl : (.int .u32 (a : Int) : Value) = v1 := Eq.symm r1
      refine W.step [(16, _)] (Sub.cons (e1 _ rfl) (Sub.refl _)) ?_
      refine W.assign rfl rfl ?_
      refine W.nil ?_
      exact At.step (Ext.refl _) rfl
    refine And.intro ?_ ?_
    · intro L_ w1 hX_ hs_ hf_ hd_
      obtain ⟨v3, e3, r3⟩ := hd_ 3 rfl
      obtain rfl : (.int .u32 (b : Int) : Value) = v3 := Eq.symm r3
      refine W.step [(18, _)] (Sub.cons (e3 _ rfl) (Sub.refl _)) ?_
      refine W.assign rfl rfl ?_
      refine W.nil ?_
      exact At.step (Ext.refl _) rfl
    refine And.intro ?_ ?_
    · intro L_ w1 hX_ hs_ hf_ hd_
      obtain ⟨v5, e5, r5⟩ := hd_ 5 rfl
      obtain rfl : (.int .u32 (c : Int) : Value) = v5 := Eq.symm r5
      refine W.step [(20, _)] (Sub.cons (e5 _ rfl) (Sub.refl _)) ?_
      refine W.assign rfl rfl ?_
      refine W.nil ?_
      exact At.step (Ext.refl _) rfl
    refine And.intro ?_ ?_
    · intro L_ w1 hX_ hs_ hf_ hd_
      obtain ⟨v7, e7, r7⟩ := hd_ 7 rfl
      obtain rfl : (.int .u32 (e : Int) : Value) = v7 := Eq.symm r7
      refine W.step [(22, _)] (Sub.cons (e7 _ rfl) (Sub.refl _)) ?_
      refine W.assign rfl rfl ?_
      refine W.nil ?_
      exact At.step (Ext.refl _) rfl
    refine And.intro ?_ ?_
    · intro L_ w1 hX_ hs_ hf_ hd_
      obtain ⟨v9, e9, r9⟩ := hd_ 9 rfl
      obtain rfl : (.int .u32 (f : Int) : Value) = v9 := Eq.symm r9
      refine W.step [(24, _)] (Sub.cons (e9 _ rfl) (Sub.refl _)) ?_
      refine W.assign rfl rfl ?_
      refine W.nil ?_
      exact At.step (Ext.refl _) rfl
    refine And.intro ?_ ?_
    · intro L_ w1 hX_ hs_ hf_ hd_
      obtain ⟨v11, e11, r11⟩ := hd_ 11 rfl
      obtain rfl : (.int .u32 (g : Int) : Value) = v11 := Eq.symm r11
      refine W.step [(26, _)] (Sub.cons (e11 _ rfl) (Sub.refl _)) ?_
      refine W.assign rfl rfl ?_
      refine W.nil ?_
      exact At.step (Ext.refl _) rfl
    exact trivial
  · intro L_ w1 hX1 hs_ hv_
    obtain ⟨v12, e12, r12⟩ := hv_ 12 (by decide)
    obtain rfl : (.int .u32 (a : Int) : Value) = v12 := Eq.symm r12
    obtain ⟨v13, e13, r13⟩ := hv_ 13 (by decide)
    obtain rfl : (.int .u32 (b : Int) : Value) = v13 := Eq.symm r13
    obtain ⟨v14, e14, r14⟩ := hv_ 14 (by decide)
    obtain rfl : (.int .u32 (c : Int) : Value) = v14 := Eq.symm r14
    obtain ⟨v15, e15, r15⟩ := hv_ 15 (by decide)
    obtain rfl : (.int .u32 (e : Int) : Value) = v15 := Eq.symm r15
    obtain ⟨v16, e16, r16⟩ := hv_ 16 (by decide)
    obtain rfl : (.int .u32 (f : Int) : Value) = v16 := Eq.symm r16
    obtain ⟨v17, e17, r17⟩ := hv_ 17 (by decide)
    obtain rfl : (.int .u32 (g : Int) : Value) = v17 := Eq.symm r17
    refine W.weaken (l' := [(5, _), (6, _), (7, _), (8, _), (9, _), (10, _), (1, _), (2, _), (4, _)]) (Sub.cons (e12 _ rfl) (Sub.cons (e13 _ rfl) (Sub.cons (e14 _ rfl) (Sub.cons (e15 _ rfl) (Sub.cons (e16 _ rfl) (Sub.cons (e17 _ rfl) (Sub.cons (hs_ _ _ rfl) (Sub.cons (hs_ _ _ rfl) (Sub.cons (hs_ _ _ rfl) (Sub.nil)))))))))) ?_
    refine W.nil ?_
    refine At.thenCode ?_
    refine C.seq ?_
    refine C.region ?_
    have hB2 := hB2.ext hX1
    have hB4 := hB4.ext hX1
    refine W.move rfl rfl ?_
    refine W.call Try.call86 rfl (Words.Rot_ok _ _ _) rfl ?_
    rintro v w' ⟨rfl, rfl⟩
    refine W.move rfl rfl ?_
    refine W.call Try.call86 rfl (Words.Rot_ok _ _ _) rfl ?_
    rintro v w' ⟨rfl, rfl⟩
    refine W.xorU (M := 4294967296) rfl rfl rfl rfl rfl ?_
    refine W.move rfl rfl ?_
    refine W.call Try.call86 rfl (Words.Rot_ok _ _ _) rfl ?_
    rintro v w' ⟨rfl, rfl⟩
    refine W.xorU (M := 4294967296) rfl rfl rfl rfl rfl ?_
    refine W.assign rfl rfl ?_
    refine W.nil ?_
    refine At.thenCode ?_
    refine C.seq ?_
    refine C.region ?_
    refine W.indexA1 (j := 7) Words.X32 Try.underlying116 rfl rfl (by first | omega | decide) rfl ?_
    refine W.loadB rfl Try.underlying90 rfl (by assumption) rfl rfl ?_
    refine W.move rfl rfl ?_
    refine W.addU (M := 4294967296) rfl rfl rfl rfl rfl ?_
    refine W.move rfl rfl ?_
    refine W.move rfl rfl ?_
    refine W.andU (M := 4294967296) rfl rfl rfl rfl rfl ?_
    refine W.move rfl rfl ?_
    refine W.notU (M := 4294967296) rfl rfl rfl rfl ?_
    refine W.move rfl rfl ?_
    refine W.andU (M := 4294967296) rfl rfl rfl rfl rfl ?_
    refine W.xorU (M := 4294967296) rfl rfl rfl rfl rfl ?_
    refine W.addU (M := 4294967296) rfl rfl rfl rfl rfl ?_
    refine W.move rfl rfl ?_
    refine W.addU (M := 4294967296) rfl rfl rfl rfl rfl ?_
    refine W.assign rfl rfl ?_
    refine W.nil ?_
    refine At.thenCode ?_
    refine C.seq ?_
    refine C.region ?_
    refine W.move rfl rfl ?_
    refine W.call Try.call86 rfl (Words.Rot_ok _ _ _) rfl ?_
    rintro v w' ⟨rfl, rfl⟩
    refine W.move rfl rfl ?_
    refine W.call Try.call86 rfl (Words.Rot_ok _ _ _) rfl ?_
    rintro v w' ⟨rfl, rfl⟩
    refine W.xorU (M := 4294967296) rfl rfl rfl rfl rfl ?_
    refine W.move rfl rfl ?_
    refine W.call Try.call86 rfl (Words.Rot_ok _ _ _) rfl ?_
    rintro v w' ⟨rfl, rfl⟩
    refine W.xorU (M := 4294967296) rfl rfl rfl rfl rfl ?_
    refine W.assign rfl rfl ?_
    refine W.nil ?_
    refine At.thenCode ?_
    refine C.seq ?_
    refine C.region ?_
    refine W.move rfl rfl ?_
    refine W.move rfl rfl ?_
    refine W.move rfl rfl ?_
    refine W.andU (M := 4294967296) rfl rfl rfl rfl rfl ?_
    refine W.move rfl rfl ?_
    refine W.move rfl rfl ?_
    refine W.andU (M := 4294967296) rfl rfl rfl rfl rfl ?_
    refine W.xorU (M := 4294967296) rfl rfl rfl rfl rfl ?_
    refine W.move rfl rfl ?_
    refine W.move rfl rfl ?_
    refine W.andU (M := 4294967296) rfl rfl rfl rfl rfl ?_
    refine W.xorU (M := 4294967296) rfl rfl rfl rfl rfl ?_
    refine W.addU (M := 4294967296) rfl rfl rfl rfl rfl ?_
    refine W.assign rfl rfl ?_
    refine W.nil ?_
    refine At.thenCode ?_
    refine C.seq ?_
    refine C.region ?_
    refine W.move rfl rfl ?_
    refine W.move rfl rfl ?_
    refine W.addU (M := 4294967296) rfl rfl rfl rfl rfl ?_
    refine W.move rfl rfl ?_
    refine W.move rfl rfl ?_
    refine W.move rfl rfl ?_
    refine W.indexA1 (j := 3) Words.X32 Try.underlying116 rfl rfl (by first | omega | decide) rfl ?_
    refine W.loadB rfl Try.underlying90 rfl (by assumption) rfl rfl ?_
    refine W.move rfl rfl ?_
    refine W.addU (M := 4294967296) rfl rfl rfl rfl rfl ?_
    refine W.move rfl rfl ?_
    refine W.move rfl rfl ?_
    refine W.move rfl rfl ?_
    refine W.buildA ((stepL [a, b, c, d, e, f, g, h] k).map u32V) (List.replicate 8 (u32V 0)) X32 Try.underlying116 (by kernel_rfl) rfl rfl (u32_oneCell _) rfl rfl ?_
    refine W.storeA ((stepL [a, b, c, d, e, f, g, h] k).map u32V) rfl rfl hB4 rfl (by kernel_rfl) (u32_oneCell _) ?_
    intro wz hcz hBz
    refine W.nil ?_
    refine At.thenCode ?_
    refine C.ret ?_
    -- RESULT IN A CELL
    refine At.retC Try.results80 rfl (hBz.cells (o := 0)) Try.underlying116 rfl (by kernel_rfl) ⟨rfl, ?_⟩
    exact ((hX2.ext hX4).ext hX1).news hcz (fun k hk => Or.inr (by omega))
theorem step_ok' {hs : List Nat} (hl : hs.length = 8) (k : Nat) (w : World) :
    Ct Try.prog 80 #[.agg (hs.map u32V).toArray, .int .u32 (k : Int)] w (fun v w' => v = .agg ((stepL hs k).map u32V).toArray ∧ Ext w w') := by
  obtain ⟨a, b, c, d, e, f, g, h, rfl⟩ := eight hl
  exact step_ok a b c d e f g h k w

/-- Eight words, the first j of them added to. -/
def mid8 (hs R : List Nat) (j : Nat) : List Nat := addL (hs.take j) (R.take j) ++ hs.drop j
theorem addL_snoc : ∀ (x y : List Nat) (a b : Nat), x.length = y.length → addL (x ++ [a]) (y ++ [b]) = addL x y ++ [addM 4294967296 a b] := by
  intro x
  induction x with
  | nil => intro y a b h; cases y with
    | nil => rfl
    | cons => simp at h
  | cons p r ih => intro y a b h; cases y with
    | nil => simp at h
    | cons q s => simp only [List.cons_append, addL, ih s a b (by simpa using h)]
theorem addL_comm : ∀ (x y : List Nat), addL x y = addL y x := by
  intro x
  induction x with
  | nil => intro y; cases y <;> rfl
  | cons p r ih => intro y; cases y with
    | nil => rfl
    | cons q s => simp only [addL, ih s, addM, Nat.add_comm p q]
theorem mid8_length {hs R : List Nat} {j : Nat} (h : hs.length = 8) (hr : R.length = 8) (hj : j ≤ 8) : (mid8 hs R j).length = 8 := by
  unfold mid8
  rw [List.length_append, addL_length _ _ (by rw [List.length_take, List.length_take, h, hr]), List.length_take, List.length_drop]; omega
theorem mid8_get {hs R : List Nat} {j : Nat} (h : hs.length = 8) (hr : R.length = 8) (hj : j < 8) : (mid8 hs R j).getD j 0 = hs.getD j 0 := by
  have hl : (addL (hs.take j) (R.take j)).length = j := by rw [addL_length _ _ (by rw [List.length_take, List.length_take, h, hr]), List.length_take]; omega
  unfold mid8
  simp only [List.getD]
  rw [List.getElem?_append_right (by omega), hl, Nat.sub_self, List.getElem?_drop, Nat.add_zero]
theorem mid8_set {hs R : List Nat} {j : Nat} (h : hs.length = 8) (hr : R.length = 8) (hj : j < 8) : (mid8 hs R j).set j (addM 4294967296 (hs.getD j 0) (R.getD j 0)) = mid8 hs R (j + 1) := by
  have hl : (addL (hs.take j) (R.take j)).length = j := by rw [addL_length _ _ (by rw [List.length_take, List.length_take, h, hr]), List.length_take]; omega
  unfold mid8
  rw [List.set_append_right _ _ (by omega), hl, Nat.sub_self, List.drop_eq_getElem_cons (by omega), List.set_cons_zero, List.take_succ_eq_append_getElem (by omega), List.take_succ_eq_append_getElem (l := R) (by omega), addL_snoc _ _ _ _ (by rw [List.length_take, List.length_take, h, hr]), List.append_assoc]
  simp [List.getD, show j < hs.length by omega, show j < R.length by omega]
theorem mid8_full {hs R : List Nat} (h : hs.length = 8) (hr : R.length = 8) : mid8 hs R 8 = addL hs R := by
  unfold mid8
  rw [List.take_of_length_le (by omega), List.take_of_length_le (by omega), List.drop_eq_nil_of_le (by omega), List.append_nil]

theorem mix_ok {hs : List Nat} (hh : hs.length = 8) (ao : Option Addr) (cp : Nat) (xs : List UInt8) (w : World) (hS : Bs w ao cp xs) (hl : xs.length ≤ 1099511627776) :
    Ct Try.prog 68 #[.agg (hs.map u32V).toArray, .slice ao xs.length cp, .agg (shaK.map u32V).toArray] w (fun v w' => v = .agg ((mixV hs shaK (sch (wordsOf xs) 64)).map u32V).toArray ∧ Ext w w') := by
  refine Ct.enter [(0, .agg (hs.map u32V).toArray), (1, .slice ao xs.length cp), (2, .agg (shaK.map u32V).toArray)] Try.func68 rfl rfl rfl rfl ?_
  obtain ⟨K, hK⟩ : ∃ K, K = shaK := ⟨_, rfl⟩
  have hKl : K.length = 64 := by rw [hK]; rfl
  rw [← hK]
  obtain ⟨U, hW⟩ : ∃ U, U = sch (wordsOf xs) 64 := ⟨_, rfl⟩
  have hWl : U.length = 64 := by rw [hW, sch_length]
  rw [← hW]
  refine C.seq ?_
  refine C.region ?_
  refine W.box (hs.map u32V) rfl rfl rfl ?_
  intro g3 w3 hg3 hX3 hB3
  have hs3 := hX3.size
  have hl3 := hB3.lt
  refine W.box (K.map u32V) rfl rfl rfl ?_
  intro g5 w5 hg5 hX5 hB5
  have hs5 := hX5.size
  have hl5 := hB5.lt
  refine W.alloc (z := .agg (List.replicate 8 (u32V 0)).toArray) (List.replicate 8 (u32V 0)) (by kernel_rfl) rfl rfl ?_
  intro g6 w6 hg6 hX6 hB6
  have hs6 := hX6.size
  have hl6 := hB6.lt
  refine W.nil ?_
  refine At.thenCode ?_
  refine C.seq ?_
  refine C.region ?_
  refine W.loadA rfl ((((hB3.ext hX5).ext hX6)).cells (o := 0)) Try.underlying116 rfl (by rw [List.drop_zero, List.length_map, hh]; kernel_rfl) rfl ?_
  refine W.alloc (z := .agg (List.replicate 8 (u32V 0)).toArray) (List.replicate 8 (u32V 0)) (by kernel_rfl) rfl rfl ?_
  intro g7 w7 hg7 hX7 hB7
  refine W.storeA (hs.map u32V) rfl rfl hB7 (by rw [List.length_map, hh]; rfl) (by rw [List.length_map, hh]; kernel_rfl) (u32_oneCell _) ?_
  intro w8 hc8 hB7
  have hB3 := (((hB3.ext hX5).ext hX6).ext hX7).chg hc8 (by omega)
  have hB5 := ((hB5.ext hX6).ext hX7).chg hc8 (by omega)
  have hB6 := (hB6.ext hX7).chg hc8 (by omega)
  have hX0 : Ext w w8 := (((hX3.ext hX5).ext hX6).ext hX7).news hc8 (fun k hk => Or.inr (by omega))
  refine W.nil ?_
  refine At.thenCode ?_
  refine C.seq ?_
  refine C.seq ?_
  refine C.region ?_
  refine W.move rfl rfl ?_
  refine W.call Try.call79 rfl (schedule_ok _ _ _ _ (hS.ext hX0) hl) rfl ?_
  rintro v13 w13 ⟨rfl, hX13⟩
  rw [← hW]
  refine W.move rfl rfl ?_
  refine W.nil ?_
  refine At.thenCode ?_
  refine C.block ?_
  refine C.loop (X := Nat) (fun x_ => [(3, .pointer (some ⟨g3, 0, none⟩)), (5, .pointer (some ⟨g5, 0, none⟩)), (6, .pointer (some ⟨g6, 0, none⟩)), (7, .pointer (some ⟨g7, 0, none⟩)), (13, .agg (U.map u32V).toArray), (14, .int .i64 (x_ : Int))]) (fun x_ w1 => Ext w w1 ∧ x_ ≤ 64 ∧ Bk w1 g3 (hs.map u32V) ∧ Bk w1 g5 (K.map u32V) ∧ Bk w1 g6 (List.replicate 8 (u32V 0)) ∧ Bk w1 g7 ((rnd hs K U x_).map u32V)) (fun x_ => 64 - x_) (0) (Sub.cons (rfl) (Sub.cons (rfl) (Sub.cons (rfl) (Sub.cons (rfl) (Sub.cons (rfl) (Sub.cons (rfl) (Sub.nil))))))) ?start1 ?_
  case start1 =>
    show Ext w _ ∧ (0) ≤ 64 ∧ Bk _ g3 (hs.map u32V) ∧ Bk _ g5 (K.map u32V) ∧ Bk _ g6 (List.replicate 8 (u32V 0)) ∧ Bk _ g7 ((rnd hs K U (0)).map u32V)
    exact ⟨hX0.ext hX13, by omega, hB3.ext hX13, hB5.ext hX13, hB6.ext hX13, hB7.ext hX13⟩
  rintro i w1 hI_
  replace hI_ : Ext w w1 ∧ i ≤ 64 ∧ Bk w1 g3 (hs.map u32V) ∧ Bk w1 g5 (K.map u32V) ∧ Bk w1 g6 (List.replicate 8 (u32V 0)) ∧ Bk w1 g7 ((rnd hs K U i).map u32V) := hI_
  obtain ⟨hX1, hi, hB3, hB5, hB6, hB7⟩ := hI_
  refine C.weaken (l' := [(3, .pointer (some ⟨g3, 0, none⟩)), (5, .pointer (some ⟨g5, 0, none⟩)), (6, .pointer (some ⟨g6, 0, none⟩)), (7, .pointer (some ⟨g7, 0, none⟩)), (13, .agg (U.map u32V).toArray), (14, .int .i64 (i : Int))]) (Sub.cons (rfl) (Sub.cons (rfl) (Sub.cons (rfl) (Sub.cons (rfl) (Sub.cons (rfl) (Sub.cons (rfl) (Sub.nil))))))) ?_
  refine C.seq ?_
  refine C.region ?_
  refine W.lssI rfl rfl rfl ?_
  refine W.nil ?_
  refine At.thenCode ?_
  refine C.seq ?_
  first | refine C.condD rfl (fun c15 => ?_) (fun c15 => ?_) | refine C.cond rfl (fun c15 => ?_) (fun c15 => ?_)
  · refine C.skip ?_
    refine At.thenCode ?_
    refine C.seq ?_
    refine C.block ?_
    refine C.seq ?_
    refine C.region ?_
    refine W.move rfl rfl ?_
    refine W.indexV i X32 Try.underlying118 Try.underlying90 rfl rfl rfl rfl (by omega) (map_get (by omega)) rfl ?_
    refine W.assign rfl rfl ?_
    refine W.assign rfl rfl ?_
    refine W.nil ?_
    refine At.thenCode ?_
    refine C.regionAny 7 ((fun v w => v = .agg ((rnd hs K U i).map u32V).toArray) :: (fun v w => v = .int .i64 (i : Int)) :: (fun v w => v = .pointer (some ⟨g5, i, none⟩)) :: (fun v w => v = .int .u32 ((K.getD i 0 : Nat) : Int)) :: (fun v w => v = .int .u32 ((U.getD i 0 : Nat) : Int)) :: (fun v w => v = .int .u32 ((addM 4294967296 (K.getD i 0) (U.getD i 0) : Nat) : Int)) :: (fun v w => v = .agg ((rnd hs K U (i + 1)).map u32V).toArray) :: []) [(3, .pointer (some ⟨g3, 0, none⟩)), (5, .pointer (some ⟨g5, 0, none⟩)), (6, .pointer (some ⟨g6, 0, none⟩)), (7, .pointer (some ⟨g7, 0, none⟩)), (13, .agg (U.map u32V).toArray), (14, .int .i64 (i : Int)), (8, .int .i64 (i : Int)), (9, .int .u32 ((U.getD i 0 : Nat) : Int))] [] (Sub.cons (rfl) (Sub.cons (rfl) (Sub.cons (rfl) (Sub.cons (rfl) (Sub.cons (rfl) (Sub.cons (rfl) (Sub.cons (rfl) (Sub.cons (rfl) (Sub.nil))))))))) (Sub.nil) (Sub.cons (rfl) (Sub.cons (rfl) (Sub.cons (rfl) (Sub.cons (rfl) (Sub.cons (rfl) (Sub.cons (rfl) (Sub.cons (rfl) (Sub.cons (rfl) (Sub.nil))))))))) (by kernel_rfl) rfl rfl rfl (And.intro (fun _ _ _ h _ => h) (And.intro (fun _ _ _ h _ => h) (And.intro (fun _ _ _ h _ => h) (And.intro (fun _ _ _ h _ => h) (And.intro (fun _ _ _ h _ => h) (And.intro (fun _ _ _ h _ => h) (And.intro (fun _ _ _ h _ => h) (trivial)))))))) ?_ ?_
    · refine And.intro ?_ ?_
      · intro L_ w5 hX_ hs_ hf_ hd_
        refine W.step [(7, _)] (Sub.cons (hs_ _ _ rfl) (Sub.refl _)) ?_
        refine W.loadA rfl ((hB7.ext hX_).cells (o := 0)) Try.underlying116 rfl (by rw [List.drop_zero, List.length_map, rnd_length hh]; kernel_rfl) rfl ?_
        refine W.nil ?_
        exact At.step (Ext.refl _) rfl
      refine And.intro ?_ ?_
      · intro L_ w5 hX_ hs_ hf_ hd_
        refine W.step [(8, _)] (Sub.cons (hs_ _ _ rfl) (Sub.refl _)) ?_
        refine W.move rfl rfl ?_
        refine W.nil ?_
        exact At.step (Ext.refl _) rfl
      refine And.intro ?_ ?_
      · intro L_ w5 hX_ hs_ hf_ hd_
        obtain ⟨v1, e1, r1⟩ := hd_ 1 rfl
        obtain rfl : (.int .i64 (i : Int) : Value) = v1 := Eq.symm r1
        refine W.step [(5, _), (19, _)] (Sub.cons (hs_ _ _ rfl) (Sub.cons (e1 _ rfl) (Sub.refl _))) ?_
        refine W.indexA1 Words.X32 Try.underlying118 rfl rfl (by first | omega | decide) rfl ?_
        refine W.nil ?_
        exact At.step (Ext.refl _) rfl
      refine And.intro ?_ ?_
      · intro L_ w5 hX_ hs_ hf_ hd_
        obtain ⟨v2, e2, r2⟩ := hd_ 2 rfl
        obtain rfl : (.pointer (some ⟨g5, i, none⟩) : Value) = v2 := Eq.symm r2
        refine W.step [(20, _)] (Sub.cons (e2 _ rfl) (Sub.refl _)) ?_
        refine W.loadB rfl Try.underlying90 rfl (hB5.ext hX_) (map_get (by omega)) rfl ?_
        refine W.nil ?_
        exact At.step (Ext.refl _) rfl
      refine And.intro ?_ ?_
      · intro L_ w5 hX_ hs_ hf_ hd_
        refine W.step [(9, _)] (Sub.cons (hs_ _ _ rfl) (Sub.refl _)) ?_
        refine W.move rfl rfl ?_
        refine W.nil ?_
        exact At.step (Ext.refl _) rfl
      refine And.intro ?_ ?_
      · intro L_ w5 hX_ hs_ hf_ hd_
        obtain ⟨v3, e3, r3⟩ := hd_ 3 rfl
        obtain rfl : (.int .u32 ((K.getD i 0 : Nat) : Int) : Value) = v3 := Eq.symm r3
        obtain ⟨v4, e4, r4⟩ := hd_ 4 rfl
        obtain rfl : (.int .u32 ((U.getD i 0 : Nat) : Int) : Value) = v4 := Eq.symm r4
        refine W.step [(21, _), (22, _)] (Sub.cons (e3 _ rfl) (Sub.cons (e4 _ rfl) (Sub.refl _))) ?_
        refine W.addU (M := 4294967296) rfl rfl rfl rfl rfl ?_
        refine W.nil ?_
        exact At.step (Ext.refl _) rfl
      refine And.intro ?_ ?_
      · intro L_ w5 hX_ hs_ hf_ hd_
        obtain ⟨v0, e0, r0⟩ := hd_ 0 rfl
        obtain rfl : (.agg ((rnd hs K U i).map u32V).toArray : Value) = v0 := Eq.symm r0
        obtain ⟨v5, e5, r5⟩ := hd_ 5 rfl
        obtain rfl : (.int .u32 ((addM 4294967296 (K.getD i 0) (U.getD i 0) : Nat) : Int) : Value) = v5 := Eq.symm r5
        refine W.step [(18, _), (23, _)] (Sub.cons (e0 _ rfl) (Sub.cons (e5 _ rfl) (Sub.refl _))) ?_
        refine W.call Try.call80 rfl (step_ok' (rnd_length hh K U i) _ _) rfl ?_
        rintro v24 w24 ⟨rfl, hX24⟩
        refine W.nil ?_
        exact At.step hX24 rfl
      exact trivial
    · intro L_ w5 hX5 hs_ hv_
      obtain ⟨v6, e6, r6⟩ := hv_ 6 (by decide)
      obtain rfl : (.agg ((rnd hs K U (i + 1)).map u32V).toArray : Value) = v6 := Eq.symm r6
      refine W.weaken (l' := [(24, _), (3, _), (5, _), (6, _), (7, _), (13, _), (14, _), (8, _), (9, _)]) (Sub.cons (e6 _ rfl) (Sub.cons (hs_ _ _ rfl) (Sub.cons (hs_ _ _ rfl) (Sub.cons (hs_ _ _ rfl) (Sub.cons (hs_ _ _ rfl) (Sub.cons (hs_ _ _ rfl) (Sub.cons (hs_ _ _ rfl) (Sub.cons (hs_ _ _ rfl) (Sub.cons (hs_ _ _ rfl) (Sub.nil)))))))))) ?_
      refine W.storeA ((rnd hs K U (i + 1)).map u32V) rfl rfl (hB7.ext hX5) (by rw [List.length_map, List.length_map, rnd_length hh, rnd_length hh]) (by rw [List.length_map, rnd_length hh]; kernel_rfl) (u32_oneCell _) ?_
      intro w9 hc9 hB9
      refine W.nil ?_
      refine At.blockNormal ?_
      refine At.thenCode ?_
      refine C.region ?_
      first | refine W.addI rfl rfl (by omega) rfl ?_ | refine W.addW rfl rfl rfl ?_
      refine W.move rfl rfl ?_
      refine W.nil ?_
      refine At.thenRound (i + 1) (Sub.cons (rfl) (Sub.cons (rfl) (Sub.cons (rfl) (Sub.cons (rfl) (Sub.cons (rfl) (Sub.cons (look_eq rfl (by rw [show (i : Int) + 1 = ((i + 1 : Nat) : Int) by omega])) (Sub.nil))))))) (show Ext w _ ∧ (i + 1) ≤ 64 ∧ Bk _ g3 (hs.map u32V) ∧ Bk _ g5 (K.map u32V) ∧ Bk _ g6 (List.replicate 8 (u32V 0)) ∧ Bk _ g7 ((rnd hs K U (i + 1)).map u32V) from ?_) (show 64 - (i + 1) < 64 - i from ?_)
      · exact ⟨(hX1.ext hX5).news hc9 (fun k hk => Or.inr (by omega)), by omega, (hB3.ext hX5).chg hc9 (by omega), (hB5.ext hX5).chg hc9 (by omega), (hB6.ext hX5).chg hc9 (by omega), hB9⟩
      · omega
  · obtain rfl : i = 64 := by omega
    have hR := rnd_length hh K U 64
    refine C.exit ?_
    refine At.thenExit ?_
    refine At.thenExit ?_
    refine At.blockSelf ?_
    refine At.thenCode ?_
    refine C.seq ?_
    refine C.seq ?_
    refine C.region ?_
    refine W.move rfl rfl ?_
    refine W.nil ?_
    refine At.thenCode ?_
    refine C.block ?_
    refine C.loop (X := Nat) (fun x_ => [(3, .pointer (some ⟨g3, 0, none⟩)), (6, .pointer (some ⟨g6, 0, none⟩)), (7, .pointer (some ⟨g7, 0, none⟩)), (26, .int .i64 (x_ : Int))]) (fun x_ w2 => Ext w w2 ∧ x_ ≤ 8 ∧ Bk w2 g3 ((mid8 hs (rnd hs K U 64) x_).map u32V) ∧ Bk w2 g6 (List.replicate 8 (u32V 0)) ∧ Bk w2 g7 ((rnd hs K U 64).map u32V)) (fun x_ => 8 - x_) (0) (Sub.cons (rfl) (Sub.cons (rfl) (Sub.cons (rfl) (Sub.cons (rfl) (Sub.nil))))) ?start2 ?_
    case start2 =>
      show Ext w _ ∧ (0) ≤ 8 ∧ Bk _ g3 ((mid8 hs (rnd hs K U 64) (0)).map u32V) ∧ Bk _ g6 (List.replicate 8 (u32V 0)) ∧ Bk _ g7 ((rnd hs K U 64).map u32V)
      exact ⟨hX1, by omega, hB3, hB6, hB7⟩
    rintro j w2 hI_
    replace hI_ : Ext w w2 ∧ j ≤ 8 ∧ Bk w2 g3 ((mid8 hs (rnd hs K U 64) j).map u32V) ∧ Bk w2 g6 (List.replicate 8 (u32V 0)) ∧ Bk w2 g7 ((rnd hs K U 64).map u32V) := hI_
    obtain ⟨hX1, hj, hB3, hB6, hB7⟩ := hI_
    refine C.weaken (l' := [(3, .pointer (some ⟨g3, 0, none⟩)), (6, .pointer (some ⟨g6, 0, none⟩)), (7, .pointer (some ⟨g7, 0, none⟩)), (26, .int .i64 (j : Int))]) (Sub.cons (rfl) (Sub.cons (rfl) (Sub.cons (rfl) (Sub.cons (rfl) (Sub.nil))))) ?_
    refine C.seq ?_
    refine C.region ?_
    refine W.lssI rfl rfl rfl ?_
    refine W.nil ?_
    refine At.thenCode ?_
    refine C.seq ?_
    first | refine C.condD rfl (fun c27 => ?_) (fun c27 => ?_) | refine C.cond rfl (fun c27 => ?_) (fun c27 => ?_)
    · have hm := mid8_length (j := j) hh hR hj
      refine C.skip ?_
      refine At.thenCode ?_
      refine C.seq ?_
      refine C.block ?_
      refine C.seq ?_
      refine C.region ?_
      refine W.move rfl rfl ?_
      refine W.assign rfl rfl ?_
      refine W.nil ?_
      refine At.thenCode ?_
      refine C.regionAny 8 ((fun v w => v = .int .i64 (j : Int)) :: (fun v w => v = .pointer (some ⟨g3, j, none⟩)) :: (fun v w => v = .int .u32 ((hs.getD j 0 : Nat) : Int)) :: (fun v w => v = .int .i64 (j : Int)) :: (fun v w => v = .pointer (some ⟨g7, j, none⟩)) :: (fun v w => v = .int .u32 (((rnd hs K U 64).getD j 0 : Nat) : Int)) :: (fun v w => v = .int .u32 ((addM 4294967296 (hs.getD j 0) ((rnd hs K U 64).getD j 0) : Nat) : Int)) :: (fun v w => v = .pointer (some ⟨g3, j, none⟩)) :: []) [(3, .pointer (some ⟨g3, 0, none⟩)), (6, .pointer (some ⟨g6, 0, none⟩)), (7, .pointer (some ⟨g7, 0, none⟩)), (26, .int .i64 (j : Int)), (10, .int .i64 (j : Int))] [] (Sub.cons (rfl) (Sub.cons (rfl) (Sub.cons (rfl) (Sub.cons (rfl) (Sub.cons (rfl) (Sub.nil)))))) (Sub.nil) (Sub.cons (rfl) (Sub.cons (rfl) (Sub.cons (rfl) (Sub.cons (rfl) (Sub.cons (rfl) (Sub.nil)))))) (by kernel_rfl) rfl rfl rfl (And.intro (fun _ _ _ h _ => h) (And.intro (fun _ _ _ h _ => h) (And.intro (fun _ _ _ h _ => h) (And.intro (fun _ _ _ h _ => h) (And.intro (fun _ _ _ h _ => h) (And.intro (fun _ _ _ h _ => h) (And.intro (fun _ _ _ h _ => h) (And.intro (fun _ _ _ h _ => h) (trivial))))))))) ?_ ?_
      · refine And.intro ?_ ?_
        · intro L_ w10 hX_ hs_ hf_ hd_
          refine W.step [(10, _)] (Sub.cons (hs_ _ _ rfl) (Sub.refl _)) ?_
          refine W.move rfl rfl ?_
          refine W.nil ?_
          exact At.step (Ext.refl _) rfl
        refine And.intro ?_ ?_
        · intro L_ w10 hX_ hs_ hf_ hd_
          obtain ⟨v0, e0, r0⟩ := hd_ 0 rfl
          obtain rfl : (.int .i64 (j : Int) : Value) = v0 := Eq.symm r0
          refine W.step [(3, _), (29, _)] (Sub.cons (hs_ _ _ rfl) (Sub.cons (e0 _ rfl) (Sub.refl _))) ?_
          refine W.indexA1 Words.X32 Try.underlying116 rfl rfl (by first | omega | decide) rfl ?_
          refine W.nil ?_
          exact At.step (Ext.refl _) rfl
        refine And.intro ?_ ?_
        · intro L_ w10 hX_ hs_ hf_ hd_
          obtain ⟨v1, e1, r1⟩ := hd_ 1 rfl
          obtain rfl : (.pointer (some ⟨g3, j, none⟩) : Value) = v1 := Eq.symm r1
          refine W.step [(30, _)] (Sub.cons (e1 _ rfl) (Sub.refl _)) ?_
          refine W.loadB rfl Try.underlying90 rfl (hB3.ext hX_) (by rw [map_get (by omega), mid8_get hh hR (by omega)]) rfl ?_
          refine W.nil ?_
          exact At.step (Ext.refl _) rfl
        refine And.intro ?_ ?_
        · intro L_ w10 hX_ hs_ hf_ hd_
          refine W.step [(10, _)] (Sub.cons (hs_ _ _ rfl) (Sub.refl _)) ?_
          refine W.move rfl rfl ?_
          refine W.nil ?_
          exact At.step (Ext.refl _) rfl
        refine And.intro ?_ ?_
        · intro L_ w10 hX_ hs_ hf_ hd_
          obtain ⟨v3, e3, r3⟩ := hd_ 3 rfl
          obtain rfl : (.int .i64 (j : Int) : Value) = v3 := Eq.symm r3
          refine W.step [(7, _), (32, _)] (Sub.cons (hs_ _ _ rfl) (Sub.cons (e3 _ rfl) (Sub.refl _))) ?_
          refine W.indexA1 Words.X32 Try.underlying116 rfl rfl (by first | omega | decide) rfl ?_
          refine W.nil ?_
          exact At.step (Ext.refl _) rfl
        refine And.intro ?_ ?_
        · intro L_ w10 hX_ hs_ hf_ hd_
          obtain ⟨v4, e4, r4⟩ := hd_ 4 rfl
          obtain rfl : (.pointer (some ⟨g7, j, none⟩) : Value) = v4 := Eq.symm r4
          refine W.step [(33, _)] (Sub.cons (e4 _ rfl) (Sub.refl _)) ?_
          refine W.loadB rfl Try.underlying90 rfl (hB7.ext hX_) (map_get (by omega)) rfl ?_
          refine W.nil ?_
          exact At.step (Ext.refl _) rfl
        refine And.intro ?_ ?_
        · intro L_ w10 hX_ hs_ hf_ hd_
          obtain ⟨v2, e2, r2⟩ := hd_ 2 rfl
          obtain rfl : (.int .u32 ((hs.getD j 0 : Nat) : Int) : Value) = v2 := Eq.symm r2
          obtain ⟨v5, e5, r5⟩ := hd_ 5 rfl
          obtain rfl : (.int .u32 (((rnd hs K U 64).getD j 0 : Nat) : Int) : Value) = v5 := Eq.symm r5
          refine W.step [(31, _), (34, _)] (Sub.cons (e2 _ rfl) (Sub.cons (e5 _ rfl) (Sub.refl _))) ?_
          refine W.addU (M := 4294967296) rfl rfl rfl rfl rfl ?_
          refine W.nil ?_
          exact At.step (Ext.refl _) rfl
        refine And.intro ?_ ?_
        · intro L_ w10 hX_ hs_ hf_ hd_
          obtain ⟨v0, e0, r0⟩ := hd_ 0 rfl
          obtain rfl : (.int .i64 (j : Int) : Value) = v0 := Eq.symm r0
          refine W.step [(3, _), (29, _)] (Sub.cons (hs_ _ _ rfl) (Sub.cons (e0 _ rfl) (Sub.refl _))) ?_
          refine W.indexA1 Words.X32 Try.underlying116 rfl rfl (by first | omega | decide) rfl ?_
          refine W.nil ?_
          exact At.step (Ext.refl _) rfl
        exact trivial
      · intro L_ w10 hX10 hs_ hv_
        obtain ⟨v7, e7, r7⟩ := hv_ 7 (by decide)
        obtain rfl : (.pointer (some ⟨g3, j, none⟩) : Value) = v7 := Eq.symm r7
        obtain ⟨v6, e6, r6⟩ := hv_ 6 (by decide)
        obtain rfl : (.int .u32 ((addM 4294967296 (hs.getD j 0) ((rnd hs K U 64).getD j 0) : Nat) : Int) : Value) = v6 := Eq.symm r6
        refine W.weaken (l' := [(36, _), (35, _), (3, _), (6, _), (7, _), (26, _), (10, _)]) (Sub.cons (e7 _ rfl) (Sub.cons (e6 _ rfl) (Sub.cons (hs_ _ _ rfl) (Sub.cons (hs_ _ _ rfl) (Sub.cons (hs_ _ _ rfl) (Sub.cons (hs_ _ _ rfl) (Sub.cons (hs_ _ _ rfl) (Sub.nil)))))))) ?_
        refine W.store1 rfl rfl rfl (hB3.ext hX10) (by rw [List.length_map]; omega) (by kernel_rfl) ?_
        intro w9 hc9 hB9
        have hB9' : Bk w9 g3 ((mid8 hs (rnd hs K U 64) (j + 1)).map u32V) := by
          rw [← mid8_set hh hR (by omega), List.map_set]
          exact hB9
        refine W.nil ?_
        refine At.blockNormal ?_
        refine At.thenCode ?_
        refine C.region ?_
        first | refine W.addI rfl rfl (by omega) rfl ?_ | refine W.addW rfl rfl rfl ?_
        refine W.move rfl rfl ?_
        refine W.nil ?_
        refine At.thenRound (j + 1) (Sub.cons (rfl) (Sub.cons (rfl) (Sub.cons (rfl) (Sub.cons (look_eq rfl (by rw [show (j : Int) + 1 = ((j + 1 : Nat) : Int) by omega])) (Sub.nil))))) (show Ext w _ ∧ (j + 1) ≤ 8 ∧ Bk _ g3 ((mid8 hs (rnd hs K U 64) (j + 1)).map u32V) ∧ Bk _ g6 (List.replicate 8 (u32V 0)) ∧ Bk _ g7 ((rnd hs K U 64).map u32V) from ?_) (show 8 - (j + 1) < 8 - j from ?_)
        · exact ⟨(hX1.ext hX10).news hc9 (fun k hk => Or.inr (by omega)), by omega, hB9', (hB6.ext hX10).chg hc9 (by omega), (hB7.ext hX10).chg hc9 (by omega)⟩
        · omega
    · refine C.exit ?_
      refine At.thenExit ?_
      refine At.thenExit ?_
      refine At.blockSelf ?_
      refine At.thenCode ?_
      refine C.seq ?_
      refine C.region ?_
      obtain rfl : j = 8 := by omega
      rw [mid8_full hh hR] at hB3
      have hml : (mixV hs K U).length = 8 := mixV_length hh _ _
      refine W.loadA (cs := (mixV hs K U).map u32V) rfl (hB3.cells (o := 0)) Try.underlying116 rfl (by rw [List.length_map, hml]; kernel_rfl) rfl ?_
      refine W.storeA ((mixV hs K U).map u32V) rfl rfl hB6 (by rw [List.length_map, hml]; rfl) (by rw [List.length_map, hml]; kernel_rfl) (u32_oneCell _) ?_
      intro wz hcz hBz
      refine W.nil ?_
      refine At.thenCode ?_
      refine C.ret ?_
      -- RESULT IN A CELL
      refine At.retC Try.results68 rfl (hBz.cells (o := 0)) Try.underlying116 rfl (by rw [List.drop_zero, List.length_map, hml]; kernel_rfl) ⟨rfl, ?_⟩
      exact hX1.news hcz (fun k hk => Or.inr (by omega))

/-! ### The whole sum -/
def padZ (n : Nat) : Nat := (119 - n % 64) % 64
def padV (xs : List UInt8) : List UInt8 := xs ++ [128] ++ List.replicate (padZ xs.length) 0 ++ be64 (xs.length * 8)
theorem padV_length (xs : List UInt8) : (padV xs).length = xs.length + 1 + padZ xs.length + 8 := by
  unfold padV
  rw [List.length_append, List.length_append, List.length_append, be64_length, List.length_replicate]; rfl
theorem padV_mod (xs : List UInt8) : (padV xs).length % 64 = 0 := by rw [padV_length]; unfold padZ; omega
theorem padV_le (xs : List UInt8) : (padV xs).length ≤ xs.length + 72 := by rw [padV_length]; unfold padZ; omega
def blkH (all : List UInt8) : Nat → List Nat
  | 0 => shaH
  | j + 1 => mixV (blkH all j) shaK (sch (wordsOf ((all.drop (64 * j)).take 64)) 64)
theorem blkH_length (all : List UInt8) : ∀ j, (blkH all j).length = 8 := by
  intro j
  induction j with
  | zero => rfl
  | succ j ih => exact mixV_length ih _ _
def be32L : List Nat → List UInt8
  | [] => []
  | x :: r => be32 x ++ be32L r
theorem be32L_snoc (l : List Nat) (x : Nat) : be32L (l ++ [x]) = be32L l ++ be32 x := by
  induction l with
  | nil => simp [be32L]
  | cons y r ih => simp only [List.cons_append, be32L, ih, List.append_assoc]
theorem be32L_length (l : List Nat) : (be32L l).length = 4 * l.length := by
  induction l with
  | nil => rfl
  | cons y r ih => simp only [be32L, List.length_append, be32_length, ih, List.length_cons]; omega
def shaV (xs : List UInt8) : List UInt8 := be32L (blkH (padV xs) ((padV xs).length / 64))
theorem shaV_length (xs : List UInt8) : (shaV xs).length = 32 := by rw [shaV, be32L_length, blkH_length]
/-- A key as a value. -/
def keyV (k : List UInt8) : Value := .agg (k.map byteV).toArray
theorem rep_snoc (k : Nat) : List.replicate (k + 1) (0 : UInt8) = List.replicate k 0 ++ [0] := by rw [List.replicate_succ']

theorem padded_ok (ao : Option Addr) (c : Nat) (xs : List UInt8) (w : World) (hS : Bs w ao c xs) (hl : xs.length ≤ 1099511626000) :
    Ct Try.prog 67 #[.slice ao xs.length c] w (fun v w' => Ow w' w.heap.size 5 v (padV xs) ∧ Ext w w') := by
  refine Ct.enter [(0, .slice ao xs.length c)] Try.func67 rfl rfl rfl rfl ?_
  refine C.seq ?_
  refine C.region ?_
  refine W.assign rfl rfl ?_
  refine W.nil ?_
  refine At.thenCode ?_
  refine C.seq ?_
  refine C.region ?_
  refine W.move rfl rfl ?_
  refine W.appendB E8 Try.underlying51 rfl rfl (Ow.nil w w.heap.size 5) hS (by simp; omega) (Nat.le_refl _) rfl ?_
  rw [List.nil_append]
  intro v5 w5 ho5 hg5 _
  have hX5 : Ext w w5 := (Chg.of_grown hg5).mono fun k hk => by cases hk
  refine W.litB [128] E8 Try.underlying51 rfl rfl rfl rfl rfl ?_
  intro g6 w6 hg6 hX6 _ hb6
  have ho6 := ownsRow_ext ho5 hX6
  refine W.appendB E8 Try.underlying51 rfl rfl ho6 hb6 (by simp; omega) (by have := hX5.size; have := hX6.size; omega) rfl ?_
  intro v7 w7 ho7 hg7 _
  have hX7 : Ext w w7 := (hX5.ext hX6).news (Chg.of_grown hg7) (fun k hk => Or.inr ((World.ownsRow.lt ho6 k hk.symm).1))
  have hz : padZ xs.length < 64 ∧ (xs.length + 1 + padZ xs.length) % 64 = 56 := by unfold padZ; omega
  refine W.assign rfl rfl ?_
  refine W.nil ?_
  refine At.thenCode ?_
  refine C.seq ?_
  refine C.block ?_
  refine C.loop (X := Nat × Value) (fun x_ => [(0, .slice ao xs.length c), (3, x_.2)]) (fun x_ w1 => Ext w w1 ∧ x_.1 ≤ padZ xs.length ∧ Ow w1 w.heap.size 5 x_.2 (xs ++ [128] ++ List.replicate x_.1 0)) (fun x_ => padZ xs.length - x_.1) (0, v7) (Sub.cons (rfl) (Sub.cons (rfl) (Sub.nil))) ?start1 ?_
  case start1 =>
    show Ext w _ ∧ (0) ≤ padZ xs.length ∧ Ow _ w.heap.size 5 (v7) (xs ++ [128] ++ List.replicate (0) 0)
    exact ⟨hX7, by omega, by rw [List.replicate_zero, List.append_nil]; exact ho7⟩
  rintro ⟨k, v⟩ w1 hI_
  replace hI_ : Ext w w1 ∧ k ≤ padZ xs.length ∧ Ow w1 w.heap.size 5 v (xs ++ [128] ++ List.replicate k 0) := hI_
  obtain ⟨hX1, hk, hO1⟩ := hI_
  refine C.weaken (l' := [(0, .slice ao xs.length c), (3, v)]) (Sub.cons (rfl) (Sub.cons (rfl) (Sub.nil))) ?_
  obtain ⟨ao1, c1, rfl, hS1, hb1⟩ := ownsRow_form hO1
  have hln : (xs ++ [128] ++ List.replicate k (0 : UInt8)).length = xs.length + 1 + k := by simp; omega
  refine C.seq ?_
  refine C.seq ?_
  refine C.region ?_
  refine W.move rfl rfl ?_
  refine W.lenS rfl Try.underlying51 rfl ?_
  first | refine W.remI rfl rfl (by omega) rfl ?_ | refine W.remW rfl rfl (by omega) rfl ?_
  refine W.neqI rfl rfl rfl ?_
  refine W.nil ?_
  refine At.thenCode ?_
  first | refine C.condD rfl (fun c11 => ?_) (fun c11 => ?_) | refine C.cond rfl (fun c11 => ?_) (fun c11 => ?_)
  · refine C.skip ?_
    refine At.thenCode ?_
    refine C.block ?_
    refine C.region ?_
    refine W.move rfl rfl ?_
    refine W.litB [0] E8 Try.underlying51 rfl rfl rfl rfl rfl ?_
    intro g13 w13 hg13 hX13 _ hb13
    have ho13 := ownsRow_ext hO1 hX13
    refine W.appendB E8 Try.underlying51 rfl rfl ho13 hb13 (by rw [hln, List.length_singleton]; omega) (by have := hX1.size; have := hX13.size; omega) rfl ?_
    intro v14 w14 ho14 hg14 _
    have hX14 : Ext w w14 := (hX1.ext hX13).news (Chg.of_grown hg14) (fun k hk => Or.inr ((World.ownsRow.lt ho13 k hk.symm).1))
    refine W.assign rfl rfl ?_
    refine W.nil ?_
    refine At.blockNormal ?_
    refine At.thenRound (k + 1, v14) (Sub.cons (rfl) (Sub.cons (rfl) (Sub.nil))) (show Ext w _ ∧ (k + 1) ≤ padZ xs.length ∧ Ow _ w.heap.size 5 (v14) (xs ++ [128] ++ List.replicate (k + 1) 0) from ?_) (show padZ xs.length - (k + 1) < padZ xs.length - k from ?_)
    · refine ⟨hX14, by omega, ?_⟩
      rw [rep_snoc, ← List.append_assoc]
      exact ho14
    · omega
  · refine C.exit ?_
    refine At.thenExit ?_
    refine At.thenExit ?_
    refine At.blockSelf ?_
    refine At.thenCode ?_
    refine C.seq ?_
    refine C.region ?_
    refine W.move rfl rfl ?_
    refine W.move rfl rfl ?_
    refine W.lenS rfl Try.underlying51 rfl ?_
    refine W.convIN (M := 18446744073709551616) rfl Try.underlying3 Try.underlying41 rfl rfl (by omega) rfl ?_
    refine W.shlU (M := 18446744073709551616) (B := 64) (s := 3) rfl rfl rfl rfl rfl rfl ?_
    have hS0 := hS.ext hX1
    obtain rfl : k = padZ xs.length := by omega
    refine W.call Try.call34 rfl (Words.Put64_ok _ _ _ _ _ hS1 (by rw [hln]; omega)) rfl ?_
    rintro v20 w20 ⟨hO20, hX20⟩
    refine W.assign rfl rfl ?_
    refine W.nil ?_
    refine At.thenCode ?_
    refine C.ret ?_
    refine At.ret1 Try.results67 rfl ?_
    refine ⟨?_, hX1.ext hX20⟩
    have := ownsRow_base hO20 hX1.size
    have e : shlM 18446744073709551616 64 ((xs.length : Int).toNat) 3 = xs.length * 8 := by
      unfold shlM
      rw [Int.toNat_natCast, show min 3 64 = 3 from rfl, show (2 : Nat) ^ 3 = 8 from rfl]
      omega
    rw [e] at this
    exact this
theorem Sum_ok (ao : Option Addr) (c : Nat) (xs : List UInt8) (w : World) (hS : Bs w ao c xs) (hl : xs.length ≤ 1000000) :
    Ct Try.prog 42 #[.slice ao xs.length c] w (fun v w' => v = keyV (shaV xs) ∧ Ext w w') := by
  refine Ct.enter [(0, .slice ao xs.length c)] Try.func42 rfl rfl rfl rfl ?_
  refine C.seq ?_
  refine C.region ?_
  refine W.alloc (z := .agg (List.replicate 32 (byteV 0)).toArray) (List.replicate 32 (byteV 0)) (by kernel_rfl) rfl rfl ?_
  intro g2 w2 hg2 hX2 hB2
  have hl2 := hB2.lt
  refine W.nil ?_
  refine At.thenCode ?_
  refine C.seq ?_
  refine C.region ?_
  refine W.call Try.call65 rfl (first_ok _) rfl ?_
  rintro v10 w10 ⟨rfl, hX10⟩
  refine W.call Try.call66 rfl (numbers_ok _) rfl ?_
  rintro v11 w11 ⟨rfl, hX11⟩
  refine W.alloc (z := .agg (List.replicate 8 (u32V 0)).toArray) (List.replicate 8 (u32V 0)) (by kernel_rfl) rfl rfl ?_
  intro g3 w3 hg3 hX3 hB3
  have hl3 := hB3.lt
  have hX2' := (hX2.ext hX10).ext hX11
  have hB2 := ((hB2.ext hX10).ext hX11)
  have hl2 := hB2.lt
  have hB2 := hB2.ext hX3
  refine W.alloc (z := .agg (List.replicate 64 (u32V 0)).toArray) (List.replicate 64 (u32V 0)) (by kernel_rfl) rfl rfl ?_
  intro g4 w4 hg4 hX4 hB4
  have hs2 := hX2'.size
  have hs3 := hX3.size
  have hs4 := hX4.size
  have hn23 : g2 ≠ g3 := by omega
  have hn24 : g2 ≠ g4 := by omega
  have hn34 : g3 ≠ g4 := by omega
  have hb2 : w.heap.size ≤ g2 := by omega
  have hb3 : w.heap.size ≤ g3 := by omega
  have hb4 : w.heap.size ≤ g4 := by omega
  refine W.storeA (shaH.map u32V) rfl rfl (hB3.ext hX4) rfl (by kernel_rfl) (u32_oneCell _) ?_
  intro w5 hc5 hB3
  have hX5 := (hX2'.ext hX3).ext hX4
  have hX5 : Ext w w5 := hX5.news hc5 (fun k hk => Or.inr (by omega))
  refine W.storeA (shaK.map u32V) rfl rfl (hB4.chg hc5 (by omega)) rfl (by kernel_rfl) (u32_oneCell _) ?_
  intro w6 hc6 hB4
  have hX6 : Ext w w6 := hX5.news hc6 (fun k hk => Or.inr (by omega))
  have hB3 := hB3.chg hc6 (by omega)
  have hB2 := ((hB2.ext hX4).chg hc5 (by omega)).chg hc6 (by omega)
  have hlt3 := hB3.lt
  refine W.nil ?_
  refine At.thenCode ?_
  refine C.seq ?_
  refine C.region ?_
  refine W.move rfl rfl ?_
  refine W.call Try.call67 rfl (padded_ok _ _ _ _ (hS.ext hX6) (by omega)) rfl ?_
  rintro v13 w13 ⟨hO13, hX13⟩
  obtain ⟨al, hal⟩ : ∃ al, al = padV xs := ⟨_, rfl⟩
  have hal0 : al.length % 64 = 0 := by rw [hal]; exact padV_mod xs
  have hal1 : al.length ≤ xs.length + 72 := by rw [hal]; exact padV_le xs
  rw [← hal] at hO13
  obtain ⟨ao13, c13, rfl, hS13, hb13⟩ := ownsRow_form hO13
  refine W.assign rfl rfl ?_
  refine W.nil ?_
  refine At.thenCode ?_
  refine C.seq ?_
  refine C.seq ?_
  refine C.region ?_
  refine W.assign rfl rfl ?_
  refine W.nil ?_
  refine At.thenCode ?_
  refine C.block ?_
  refine C.loop (X := Nat) (fun x_ => [(2, .pointer (some ⟨g2, 0, none⟩)), (3, .pointer (some ⟨g3, 0, none⟩)), (4, .pointer (some ⟨g4, 0, none⟩)), (5, .slice ao13 al.length c13), (6, .int .i64 ((64 * x_ : Nat) : Int))]) (fun x_ w1 => Ext w w1 ∧ Bs w1 ao13 c13 al ∧ 64 * x_ ≤ al.length ∧ Bk w1 g2 (List.replicate 32 (byteV 0)) ∧ Bk w1 g3 ((blkH al x_).map u32V) ∧ Bk w1 g4 (shaK.map u32V)) (fun x_ => al.length - 64 * x_) (0) (Sub.cons (rfl) (Sub.cons (rfl) (Sub.cons (rfl) (Sub.cons (rfl) (Sub.cons (rfl) (Sub.nil)))))) ?start1 ?_
  case start1 =>
    show Ext w _ ∧ Bs _ ao13 c13 al ∧ 64 * (0) ≤ al.length ∧ Bk _ g2 (List.replicate 32 (byteV 0)) ∧ Bk _ g3 ((blkH al (0)).map u32V) ∧ Bk _ g4 (shaK.map u32V)
    exact ⟨hX6.ext hX13, hS13, by omega, hB2.ext hX13, hB3.ext hX13, hB4.ext hX13⟩
  rintro j w1 hI_
  replace hI_ : Ext w w1 ∧ Bs w1 ao13 c13 al ∧ 64 * j ≤ al.length ∧ Bk w1 g2 (List.replicate 32 (byteV 0)) ∧ Bk w1 g3 ((blkH al j).map u32V) ∧ Bk w1 g4 (shaK.map u32V) := hI_
  obtain ⟨hX1, hSa, hj, hB2, hB3, hB4⟩ := hI_
  refine C.weaken (l' := [(2, .pointer (some ⟨g2, 0, none⟩)), (3, .pointer (some ⟨g3, 0, none⟩)), (4, .pointer (some ⟨g4, 0, none⟩)), (5, .slice ao13 al.length c13), (6, .int .i64 ((64 * j : Nat) : Int))]) (Sub.cons (rfl) (Sub.cons (rfl) (Sub.cons (rfl) (Sub.cons (rfl) (Sub.cons (rfl) (Sub.nil)))))) ?_
  refine C.seq ?_
  refine C.seq ?_
  refine C.region ?_
  refine W.move rfl rfl ?_
  refine W.move rfl rfl ?_
  refine W.lenS rfl Try.underlying51 rfl ?_
  refine W.lssI rfl rfl rfl ?_
  refine W.nil ?_
  refine At.thenCode ?_
  first | refine C.condD rfl (fun c17 => ?_) (fun c17 => ?_) | refine C.cond rfl (fun c17 => ?_) (fun c17 => ?_)
  · refine C.skip ?_
    refine At.thenCode ?_
    refine C.seq ?_
    refine C.block ?_
    refine C.regionAny 8 ((fun v w => v = .agg ((blkH al j).map u32V).toArray) :: (fun v w => v = .slice ao13 al.length c13) :: (fun v w => v = .int .i64 ((64 * j : Nat) : Int)) :: (fun v w => v = .int .i64 ((64 * j : Nat) : Int)) :: (fun v w => v = .int .i64 ((64 * j + 64 : Nat) : Int)) :: (fun v w => ∃ ao c, v = .slice ao 64 c ∧ Bs w ao c ((al.drop (64 * j)).take 64)) :: (fun v w => v = .agg (shaK.map u32V).toArray) :: (fun v w => v = .agg ((blkH al (j + 1)).map u32V).toArray) :: []) [(2, .pointer (some ⟨g2, 0, none⟩)), (3, .pointer (some ⟨g3, 0, none⟩)), (4, .pointer (some ⟨g4, 0, none⟩)), (5, .slice ao13 al.length c13), (6, .int .i64 ((64 * j : Nat) : Int))] [] (Sub.cons (rfl) (Sub.cons (rfl) (Sub.cons (rfl) (Sub.cons (rfl) (Sub.cons (rfl) (Sub.nil)))))) (Sub.nil) (Sub.cons (rfl) (Sub.cons (rfl) (Sub.cons (rfl) (Sub.cons (rfl) (Sub.cons (rfl) (Sub.nil)))))) (by kernel_rfl) rfl rfl rfl (And.intro (fun _ _ _ h _ => h) (And.intro (fun _ _ _ h _ => h) (And.intro (fun _ _ _ h _ => h) (And.intro (fun _ _ _ h _ => h) (And.intro (fun _ _ _ h _ => h) (And.intro (fun _ _ _ ⟨ao, c, e, h⟩ g => ⟨ao, c, e, Sl.ext h g⟩) (And.intro (fun _ _ _ h _ => h) (And.intro (fun _ _ _ h _ => h) (trivial))))))))) ?_ ?_
    · refine And.intro ?_ ?_
      · intro L_ w6 hX_ hs_ hf_ hd_
        refine W.step [(3, _)] (Sub.cons (hs_ _ _ rfl) (Sub.refl _)) ?_
        refine W.loadA rfl ((hB3.ext hX_).cells (o := 0)) Try.underlying116 rfl (by rw [List.drop_zero, List.length_map, blkH_length]; kernel_rfl) rfl ?_
        refine W.nil ?_
        exact At.step (Ext.refl _) rfl
      refine And.intro ?_ ?_
      · intro L_ w6 hX_ hs_ hf_ hd_
        refine W.step [(5, _)] (Sub.cons (hs_ _ _ rfl) (Sub.refl _)) ?_
        refine W.move rfl rfl ?_
        refine W.nil ?_
        exact At.step (Ext.refl _) rfl
      refine And.intro ?_ ?_
      · intro L_ w6 hX_ hs_ hf_ hd_
        refine W.step [(6, _)] (Sub.cons (hs_ _ _ rfl) (Sub.refl _)) ?_
        refine W.move rfl rfl ?_
        refine W.nil ?_
        exact At.step (Ext.refl _) rfl
      refine And.intro ?_ ?_
      · intro L_ w6 hX_ hs_ hf_ hd_
        refine W.step [(6, _)] (Sub.cons (hs_ _ _ rfl) (Sub.refl _)) ?_
        refine W.move rfl rfl ?_
        refine W.nil ?_
        exact At.step (Ext.refl _) rfl
      refine And.intro ?_ ?_
      · intro L_ w6 hX_ hs_ hf_ hd_
        obtain ⟨v3, e3, r3⟩ := hd_ 3 rfl
        obtain rfl : (.int .i64 ((64 * j : Nat) : Int) : Value) = v3 := Eq.symm r3
        refine W.step [(23, _)] (Sub.cons (e3 _ rfl) (Sub.refl _)) ?_
        first | refine W.addI rfl rfl (by omega) rfl ?_ | refine W.addW rfl rfl rfl ?_
        rw [show ((64 * j : Nat) : Int) + 64 = ((64 * j + 64 : Nat) : Int) by omega]
        refine W.nil ?_
        exact At.step (Ext.refl _) rfl
      refine And.intro ?_ ?_
      · intro L_ w6 hX_ hs_ hf_ hd_
        obtain ⟨v1, e1, r1⟩ := hd_ 1 rfl
        obtain rfl : (.slice ao13 al.length c13 : Value) = v1 := Eq.symm r1
        obtain ⟨v2, e2, r2⟩ := hd_ 2 rfl
        obtain rfl : (.int .i64 ((64 * j : Nat) : Int) : Value) = v2 := Eq.symm r2
        obtain ⟨v4, e4, r4⟩ := hd_ 4 rfl
        obtain rfl : (.int .i64 ((64 * j + 64 : Nat) : Int) : Value) = v4 := Eq.symm r4
        refine W.step [(21, _), (22, _), (24, _)] (Sub.cons (e1 _ rfl) (Sub.cons (e2 _ rfl) (Sub.cons (e4 _ rfl) (Sub.refl _)))) ?_
        have h64 : 64 * j + 64 ≤ al.length := by omega
        have hlt : ((al.drop (64 * j)).take 64).length = 64 := by rw [List.length_take, List.length_drop]; omega
        refine W.slice (lo := 64 * j) (hi := 64 * j + 64) E8 Try.underlying51 rfl (hSa.ext hX_) (.inr ⟨_, _, rfl, rfl⟩) (.inr ⟨_, _, rfl, rfl⟩) (by omega) (by omega) rfl ?_
        intro ao25 c25 hS25 _
        rw [show 64 * j + 64 - 64 * j = 64 by omega, Nat.mul_one, Nat.mul_one, ← List.map_drop, ← List.map_take] at hS25
        rw [show 64 * j + 64 - 64 * j = 64 by omega]
        have hS25 : Bs w6 ao25 c25 ((al.drop (64 * j)).take 64) := by show Sl _ _ _ _ _ _; rw [hlt]; exact hS25
        refine W.nil ?_
        exact At.step (Ext.refl _) ⟨_, _, rfl, hS25⟩
      refine And.intro ?_ ?_
      · intro L_ w6 hX_ hs_ hf_ hd_
        refine W.step [(4, _)] (Sub.cons (hs_ _ _ rfl) (Sub.refl _)) ?_
        refine W.loadA rfl ((hB4.ext hX_).cells (o := 0)) Try.underlying118 rfl (by kernel_rfl) rfl ?_
        refine W.nil ?_
        exact At.step (Ext.refl _) rfl
      refine And.intro ?_ ?_
      · intro L_ w6 hX_ hs_ hf_ hd_
        obtain ⟨v0, e0, r0⟩ := hd_ 0 rfl
        obtain rfl : (.agg ((blkH al j).map u32V).toArray : Value) = v0 := Eq.symm r0
        obtain ⟨v5, e5, r5⟩ := hd_ 5 rfl
        obtain ⟨ao5, c5, rfl, hS5⟩ := r5
        obtain ⟨v6, e6, r6⟩ := hd_ 6 rfl
        obtain rfl : (.agg (shaK.map u32V).toArray : Value) = v6 := Eq.symm r6
        refine W.step [(20, _), (25, _), (26, _)] (Sub.cons (e0 _ rfl) (Sub.cons (e5 _ rfl) (Sub.cons (e6 _ rfl) (Sub.refl _)))) ?_
        have hlt : ((al.drop (64 * j)).take 64).length = 64 := by rw [List.length_take, List.length_drop]; omega
        have hmx := mix_ok (blkH_length al j) ao5 c5 ((al.drop (64 * j)).take 64) w6 hS5 (by omega)
        rw [hlt] at hmx
        refine W.call Try.call68 rfl hmx rfl ?_
        rintro v27 w27 ⟨rfl, hX27⟩
        refine W.nil ?_
        exact At.step hX27 rfl
      exact trivial
    · intro L_ w6 hX6 hs_ hv_
      obtain ⟨v7, e7, r7⟩ := hv_ 7 (by decide)
      obtain rfl : (.agg ((blkH al (j + 1)).map u32V).toArray : Value) = v7 := Eq.symm r7
      refine W.weaken (l' := [(27, _), (2, _), (3, _), (4, _), (5, _), (6, _)]) (Sub.cons (e7 _ rfl) (Sub.cons (hs_ _ _ rfl) (Sub.cons (hs_ _ _ rfl) (Sub.cons (hs_ _ _ rfl) (Sub.cons (hs_ _ _ rfl) (Sub.cons (hs_ _ _ rfl) (Sub.nil))))))) ?_
      refine W.storeA ((blkH al (j + 1)).map u32V) rfl rfl (hB3.ext hX6) (by rw [List.length_map, List.length_map, blkH_length, blkH_length]) (by rw [List.length_map, blkH_length]; kernel_rfl) (u32_oneCell _) ?_
      intro w9 hc9 hB9
      refine W.nil ?_
      refine At.blockNormal ?_
      refine At.thenCode ?_
      refine C.region ?_
      refine W.move rfl rfl ?_
      first | refine W.addI rfl rfl (by omega) rfl ?_ | refine W.addW rfl rfl rfl ?_
      refine W.assign rfl rfl ?_
      refine W.nil ?_
      refine At.thenRound (j + 1) (Sub.cons (rfl) (Sub.cons (rfl) (Sub.cons (rfl) (Sub.cons (rfl) (Sub.cons (look_eq rfl (by rw [show ((64 * j : Nat) : Int) + 64 = ((64 * (j + 1) : Nat) : Int) by omega])) (Sub.nil)))))) (show Ext w _ ∧ Bs _ ao13 c13 al ∧ 64 * (j + 1) ≤ al.length ∧ Bk _ g2 (List.replicate 32 (byteV 0)) ∧ Bk _ g3 ((blkH al (j + 1)).map u32V) ∧ Bk _ g4 (shaK.map u32V) from ?_) (show al.length - 64 * (j + 1) < al.length - 64 * j from ?_)
      · refine ⟨(hX1.ext hX6).news hc9 (fun k hk => Or.inr (by omega)), (hSa.ext hX6).chg hc9 (fun ad had _ hk => ?_), by omega, (hB2.ext hX6).chg hc9 (by omega), hB9, (hB4.ext hX6).chg hc9 (by omega)⟩
        have := hb13 ad had
        omega
      · omega
  · have hjn : j = al.length / 64 := by omega
    have hHl := blkH_length al j
    obtain ⟨H, hH⟩ : ∃ H, H = blkH al j := ⟨_, rfl⟩
    rw [← hH] at hB3 hHl
    refine C.exit ?_
    refine At.thenExit ?_
    refine At.thenExit ?_
    refine At.blockSelf ?_
    refine At.thenCode ?_
    refine C.seq ?_
    refine C.region ?_
    refine W.assign rfl rfl ?_
    refine W.nil ?_
    refine At.thenCode ?_
    refine C.seq ?_
    refine C.seq ?_
    refine C.region ?_
    refine W.loadA rfl (hB3.cells (o := 0)) Try.underlying116 rfl (by rw [List.drop_zero, List.length_map, hHl]; kernel_rfl) rfl ?_
    refine W.move rfl rfl ?_
    refine W.nil ?_
    refine At.thenCode ?_
    refine C.block ?_
    refine C.loop (X := Nat × Value) (fun x_ => [(2, .pointer (some ⟨g2, 0, none⟩)), (28, .agg (H.map u32V).toArray), (29, .int .i64 (x_.1 : Int)), (7, x_.2)]) (fun x_ w2 => Ext w w2 ∧ x_.1 ≤ 8 ∧ Bk w2 g2 (List.replicate 32 (byteV 0)) ∧ ∃ b, Ow w2 b 5 x_.2 (be32L (H.take x_.1))) (fun x_ => 8 - x_.1) (0, .slice none 0 0) (Sub.cons (rfl) (Sub.cons (rfl) (Sub.cons (rfl) (Sub.cons (rfl) (Sub.nil))))) ?start2 ?_
    case start2 =>
      show Ext w _ ∧ (0) ≤ 8 ∧ Bk _ g2 (List.replicate 32 (byteV 0)) ∧ ∃ b, Ow _ b 5 (.slice none 0 0) (be32L (H.take (0)))
      exact ⟨hX1, by omega, hB2, 0, Ow.nil _ _ _⟩
    rintro ⟨i, v⟩ w2 hI_
    replace hI_ : Ext w w2 ∧ i ≤ 8 ∧ Bk w2 g2 (List.replicate 32 (byteV 0)) ∧ ∃ b, Ow w2 b 5 v (be32L (H.take i)) := hI_
    obtain ⟨hX1, hi, hB2, b2', hO2⟩ := hI_
    refine C.weaken (l' := [(2, .pointer (some ⟨g2, 0, none⟩)), (28, .agg (H.map u32V).toArray), (29, .int .i64 (i : Int)), (7, v)]) (Sub.cons (rfl) (Sub.cons (rfl) (Sub.cons (rfl) (Sub.cons (rfl) (Sub.nil))))) ?_
    obtain ⟨ao2, c2, rfl, hS2, hb2'⟩ := ownsRow_form hO2
    have hbl := be32L_length (H.take i)
    rw [List.length_take] at hbl
    refine C.seq ?_
    refine C.region ?_
    refine W.lssI rfl rfl rfl ?_
    refine W.nil ?_
    refine At.thenCode ?_
    refine C.seq ?_
    first | refine C.condD rfl (fun c30 => ?_) (fun c30 => ?_) | refine C.cond rfl (fun c30 => ?_) (fun c30 => ?_)
    · refine C.skip ?_
      refine At.thenCode ?_
      refine C.seq ?_
      refine C.block ?_
      refine C.seq ?_
      refine C.region ?_
      refine W.indexV i X32 Try.underlying116 Try.underlying90 rfl rfl rfl rfl (by omega) (map_get (by omega)) rfl ?_
      refine W.assign rfl rfl ?_
      refine W.nil ?_
      refine At.thenCode ?_
      refine C.region ?_
      refine W.move rfl rfl ?_
      refine W.move rfl rfl ?_
      refine W.call Try.call58 rfl (Words.Put32_ok _ _ _ _ _ hS2 (by omega)) rfl ?_
      rintro v34 w34 ⟨hO34, hX34⟩
      refine W.assign rfl rfl ?_
      refine W.nil ?_
      refine At.blockNormal ?_
      refine At.thenCode ?_
      refine C.region ?_
      first | refine W.addI rfl rfl (by omega) rfl ?_ | refine W.addW rfl rfl rfl ?_
      refine W.move rfl rfl ?_
      refine W.nil ?_
      refine At.thenRound (i + 1, v34) (Sub.cons (rfl) (Sub.cons (rfl) (Sub.cons (look_eq rfl (by rw [show (i : Int) + 1 = ((i + 1 : Nat) : Int) by omega])) (Sub.cons (rfl) (Sub.nil))))) (show Ext w _ ∧ (i + 1) ≤ 8 ∧ Bk _ g2 (List.replicate 32 (byteV 0)) ∧ ∃ b, Ow _ b 5 (v34) (be32L (H.take (i + 1))) from ?_) (show 8 - (i + 1) < 8 - i from ?_)
      · refine ⟨hX1.ext hX34, by omega, hB2.ext hX34, w2.heap.size, ?_⟩
        have e : H.take (i + 1) = H.take i ++ [H.getD i 0] := by
          rw [List.take_succ_eq_append_getElem (by omega)]
          simp [List.getD, show i < H.length by omega]
        rw [e, be32L_snoc]
        exact hO34
      · omega
    · obtain rfl : i = 8 := by omega
      rw [List.take_of_length_le (by omega)] at hO2 hS2 hbl
      have hbl32 : (be32L H).length = 32 := by rw [be32L_length, hHl]
      have hsv : shaV xs = be32L H := by rw [shaV, ← hal, hH, hjn]
      refine C.exit ?_
      refine At.thenExit ?_
      refine At.thenExit ?_
      refine At.blockSelf ?_
      refine At.thenCode ?_
      refine C.seq ?_
      refine C.region ?_
      refine W.move rfl rfl ?_
      rw [List.take_of_length_le (by omega)]
      refine W.arrayAt Try.underlying50 rfl (by omega) rfl ?_
      cases ao2 with
      | none => exfalso; have h1 := hS2.nil rfl; have h2 := hS2.le; omega
      | some ad2 =>
      refine W.loadA rfl (hS2.at_ ad2 rfl) Try.underlying50 rfl (by rw [List.length_map, hbl32]; kernel_rfl) rfl ?_
      refine W.storeA ((be32L H).map byteV) rfl rfl hB2 (by rw [List.length_map, hbl32]; rfl) (by rw [List.length_map, hbl32]; kernel_rfl) (bytes_oneCell _) ?_
      intro wz hcz hBz
      refine W.nil ?_
      refine At.thenCode ?_
      refine C.ret ?_
      -- RESULT IN A CELL
      refine At.retC Try.results42 rfl (hBz.cells (o := 0)) Try.underlying50 rfl (by rw [List.drop_zero, List.length_map, hbl32]; kernel_rfl) ⟨?_, ?_⟩
      · rw [hsv]; rfl
      · exact hX1.news hcz (fun k hk => Or.inr (by omega))
end Go.Proofs.Ythiijdbiikljpaa.Sha
