/- Package sign's names, package letter's keys, and letters of the loop. -/
import Derived.Test.YtkjmllohbohliaaLet1
import Derived.Test.YtkjmllohbohliaaDerive
import Derived.Test.YtkjmllohbohliaaSeal3
import Derived.Test.YtkjmllohbohliaaGrp
import Derived.Test.YtkjmllohbohliaaCodF
import Derived.Test.YtkjmllohbohliaaRSha
namespace Go.Proofs.Ytkjmllohbohliaa.Let
open Go Go.RowKit Go.Proofs.Ytkjmllohbohliaa.KW Go.Proofs.Ytkjmllohbohliaa.Words Go.Proofs.Ytkjmllohbohliaa.Sha Go.Proofs.Ytkjmllohbohliaa.RSha Go.Proofs.Ytkjmllohbohliaa.Derive Go.Proofs.Ytkjmllohbohliaa.Seal Go.Proofs.Ytkjmllohbohliaa.Grp Go.Proofs.Ytkjmllohbohliaa.Cod
set_option linter.unusedVariables false
set_option linter.unusedSimpArgs false
set_option maxRecDepth 100000
theorem keyD_length (a b : List UInt8) : (keyD a b).length = 32 := expand32_length _ _
theorem zeroNoteOk : NoteOk zeroNote := ⟨by decide, by decide, by decide⟩
def nameV (x : Nat) : List UInt8 := shaV (be64 x)
theorem nameV_length (x : Nat) : (nameV x).length = 32 := shaV_length _
def innerS : List UInt8 := [105, 110, 110, 101, 114]
def loopS : List UInt8 := [108, 111, 111, 112]
def sealedV (x e : Nat) : List UInt8 := keyD (be64 (timesV x e)) innerS
theorem Public_ok (e : Nat) (he : e < 18446744073709551616) (w : World) : Ct Try.prog 40 #[.int .u64 (e : Int)] w (fun v w' => v = .int .u64 ((timesV 37 e : Nat) : Int) ∧ w = w') := by
  refine Ct.enter [(0, .int .u64 (e : Int))] Try.func40 rfl rfl rfl rfl ?_
  refine C.seq ?_
  refine C.region ?_
  refine W.assign rfl rfl ?_
  refine W.nil ?_
  refine At.thenCode ?_
  refine C.seq ?_
  refine C.region ?_
  refine W.move rfl rfl ?_
  refine W.call Try.call45 rfl (Grp.Base_ok _ (by first | omega | decide) _) rfl ?_
  rintro v w' ⟨rfl, rfl⟩
  refine W.assign rfl rfl ?_
  refine W.nil ?_
  refine At.thenCode ?_
  refine C.ret ?_
  refine At.ret1 Try.results40 rfl ?_
  exact ⟨rfl, rfl⟩
theorem Name_ok (x : Nat) (w : World) : Ct Try.prog 36 #[.int .u64 (x : Int)] w (fun v w' => v = keyV (nameV x) ∧ Ext w w') := by
  refine Ct.enter [(0, .int .u64 (x : Int))] Try.func36 rfl rfl rfl rfl ?_
  have hkl := nameV_length x
  refine C.seq ?_
  refine C.region ?_
  refine W.alloc (z := .agg (List.replicate 32 (byteV 0)).toArray) (List.replicate 32 (byteV 0)) (by kernel_rfl) rfl rfl ?_
  intro g2 w2 hg2 hX2 hB2
  refine W.nil ?_
  refine At.thenCode ?_
  refine C.seq ?_
  refine C.region ?_
  refine W.move rfl rfl ?_
  refine W.call Try.call44 rfl (Grp.Bytes_ok _ _) rfl ?_
  rintro v4 w4 ⟨hO4, hX4⟩
  obtain ⟨a4, c4, rfl, hS4, _⟩ := ownsRow_form hO4
  refine W.call Try.call63 rfl (Sum_ok _ _ _ _ hS4 (by rw [be64_length]; decide)) rfl ?_
  rintro v5 w5 ⟨rfl, hX5⟩
  refine W.storeA ((nameV x).map byteV) rfl rfl ((hB2.ext hX4).ext hX5) (by rw [List.length_map, hkl]; rfl) (by rw [List.length_map, hkl]; kernel_rfl) (bytes_oneCell _) ?_
  intro wz hcz hBz
  refine W.nil ?_
  refine At.thenCode ?_
  refine C.ret ?_
  -- RESULT IN A CELL
  refine At.retC Try.results36 rfl (hBz.cells (o := 0)) Try.underlying23 rfl (by rw [List.drop_zero, List.length_map, hkl]; kernel_rfl) ⟨rfl, ?_⟩
  exact ((hX2.ext hX4).ext hX5).news hcz (fun k hk => Or.inr (by omega))
theorem sealed_ok (x e : Nat) (he : e < 18446744073709551616) (w : World) : Ct Try.prog 46 #[.int .u64 (x : Int), .int .u64 (e : Int)] w (fun v w' => v = keyV (sealedV x e) ∧ Ext w w') := by
  refine Ct.enter [(0, .int .u64 (x : Int)), (1, .int .u64 (e : Int))] Try.func46 rfl rfl rfl rfl ?_
  have hkl : (sealedV x e).length = 32 := keyD_length _ _
  refine C.seq ?_
  refine C.region ?_
  refine W.alloc (z := .agg (List.replicate 32 (byteV 0)).toArray) (List.replicate 32 (byteV 0)) (by kernel_rfl) rfl rfl ?_
  intro g4 w4 hg4 hX4 hB4
  refine W.nil ?_
  refine At.thenCode ?_
  refine C.seq ?_
  refine C.region ?_
  refine W.move rfl rfl ?_
  refine W.move rfl rfl ?_
  refine W.call Try.call64 rfl (Grp.Times_ok _ _ (by first | omega | decide) _) rfl ?_
  rintro v w' ⟨rfl, rfl⟩
  refine W.call Try.call44 rfl (Grp.Bytes_ok _ _) rfl ?_
  rintro v8 w8 ⟨hO8, hX8⟩
  obtain ⟨a8, c8, rfl, hS8, _⟩ := ownsRow_form hO8
  refine W.call Try.call41 rfl (Derive.Key_ok _ _ _ innerS _ hS8 (by rw [be64_length]; decide) (by decide)) rfl ?_
  rintro v9 w9 ⟨rfl, hX9⟩
  refine W.storeA ((sealedV x e).map byteV) rfl rfl ((hB4.ext hX8).ext hX9) (by rw [List.length_map, hkl]; rfl) (by rw [List.length_map, hkl]; kernel_rfl) (bytes_oneCell _) ?_
  intro wz hcz hBz
  refine W.nil ?_
  refine At.thenCode ?_
  refine C.ret ?_
  -- RESULT IN A CELL
  refine At.retC Try.results46 rfl (hBz.cells (o := 0)) Try.underlying23 rfl (by rw [List.drop_zero, List.length_map, hkl]; kernel_rfl) ⟨rfl, ?_⟩
  exact ((hX4.ext hX8).ext hX9).news hcz (fun k hk => Or.inr (by omega))
theorem bytes12_ok (k : List UInt8) (hk : k.length = 32) (w : World) : Ct Try.prog 53 #[keyV k] w (fun v w' => Ow w' w.heap.size 5 v k ∧ Ext w w') := by
  refine Ct.enter [(0, keyV k)] Try.func53 rfl rfl rfl rfl ?_
  refine C.seq ?_
  refine C.region ?_
  refine W.box (k.map byteV) rfl rfl rfl ?_
  intro g1 w1 hg1 hX1 hB1
  refine W.assign rfl rfl ?_
  refine W.nil ?_
  refine At.thenCode ?_
  refine C.seq ?_
  refine C.region ?_
  refine W.sliceA X8 Try.underlying23 rfl rfl ?_
  have hs3 : Bs w1 (some ⟨g1, 0, none⟩) 32 k := by
    have := Bk.bs (o := 0) (xs := k) hB1 (by rw [List.drop_zero, List.take_of_length_le (by simp)])
    rwa [hk] at this
  refine W.appendB (ys := k) E8 Try.underlying24 rfl (look_eq rfl (by rw [hk])) (Ow.nil _ w.heap.size 5) hs3 (by simp; omega) hX1.size rfl ?_
  rw [List.nil_append]
  intro v4 w4 ho4 hg4 _
  refine W.assign rfl rfl ?_
  refine W.nil ?_
  refine At.thenCode ?_
  refine C.ret ?_
  refine At.ret1 Try.results53 rfl ?_
  exact ⟨ho4, hX1.ext ((Chg.of_grown hg4).mono fun k hk => by cases hk)⟩
/-- A letter's cells. -/
def letC (k : List UInt8) (v : Value) : List Value := k.map byteV ++ [v]
theorem letC_length {k : List UInt8} (h : k.length = 32) (v : Value) : (letC k v).length = 33 := by unfold letC; simp [h]
theorem letC_one (k : List UInt8) (a : Option Addr) (n c : Nat) : ∀ u ∈ letC k (.slice a n c), u.oneCell' = true := by
  intro u hu
  rcases List.mem_append.1 hu with h | h
  · exact bytes_oneCell _ u h
  · obtain rfl := List.mem_singleton.1 h; rfl
def zeroLetC : List Value := letC (List.replicate 32 0) (.slice none 0 0)
theorem letC_get {k : List UInt8} (h : k.length = 32) (v : Value) : (letC k v)[32]? = some v := by
  unfold letC
  rw [List.getElem?_append_right (by rw [List.length_map]; omega), List.length_map, h]; rfl
theorem splice_mid {pre mid post xs : List Value} (h : xs.length = mid.length) : KW.splice (pre ++ (mid ++ post)) pre.length xs = pre ++ (xs ++ post) := by
  apply List.ext_getElem?
  intro i
  rw [splice_get _ _ _ _ (by simp; omega)]
  by_cases h1 : i < pre.length
  · rw [if_neg (by omega), List.getElem?_append_left h1, List.getElem?_append_left h1]
  · have e1 : (pre ++ (mid ++ post))[i]? = (mid ++ post)[i - pre.length]? := List.getElem?_append_right (by omega)
    have e2 : (pre ++ (xs ++ post))[i]? = (xs ++ post)[i - pre.length]? := List.getElem?_append_right (by omega)
    rw [e1, e2]
    by_cases h2 : i < pre.length + xs.length
    · rw [if_pos ⟨by omega, h2⟩, List.getElem?_append_left (by omega)]
    · rw [if_neg (by omega), List.getElem?_append_right (by omega), List.getElem?_append_right (by omega), h]
theorem splice_key {k : List UInt8} (h : k.length = 32) : KW.splice zeroLetC 0 (k.map byteV) = letC k (.slice none 0 0) := by
  have := splice_mid (pre := []) (mid := List.replicate 32 (byteV 0)) (post := [Value.slice none 0 0]) (xs := k.map byteV) (by rw [List.length_map, h]; rfl)
  simpa [zeroLetC, letC, List.map_replicate] using this
theorem splice_box {k : List UInt8} (h : k.length = 32) (u v : Value) : KW.splice (letC k u) 32 [v] = letC k v := by
  have := splice_mid (pre := k.map byteV) (mid := [u]) (post := []) (xs := [v]) rfl
  simpa [letC, h] using this
/-- A letter that a call has made. -/
def NewLet (w w' : World) (v : Value) (k b : List UInt8) : Prop := ∃ ao c, v = .agg (letC k (.slice ao b.length c)).toArray ∧ Bs w' ao c b ∧ ∀ ad, ao = some ad → w.heap.size ≤ ad.block
def loopK (x n : Nat) : List UInt8 := keyD (be64 x ++ be64 n) loopS
def loopB (x n : Nat) : List UInt8 := sealV (loopK x n) (nameV (timesV 37 x)) (noteB zeroNote)
theorem Loop_ok (x : Nat) (n : Int) (m : Nat) (w : World) (hx : x < 18446744073709551616) (hm : iu 18446744073709551616 n = m) : Ct Try.prog 20 #[.int .u64 (x : Int), .int .i64 n] w (fun v w' => NewLet w w' v (nameV (timesV 37 x)) (loopB x m) ∧ Ext w w') := by
  refine Ct.enter [(0, .int .u64 (x : Int)), (1, .int .i64 n)] Try.func20 rfl rfl rfl rfl ?_
  have hkl : (loopK x m).length = 32 := keyD_length _ _
  obtain ⟨K, hK⟩ : ∃ K, K = nameV (timesV 37 x) := ⟨_, rfl⟩
  have hKl : K.length = 32 := by rw [hK]; exact nameV_length _
  have hzl := noteB_length zeroNoteOk
  refine C.seq ?_
  refine C.region ?_
  refine W.alloc (z := .agg zeroLetC.toArray) zeroLetC (by kernel_rfl) rfl rfl ?_
  intro g4 w4 hg4 hX4 hB4
  refine W.nil ?_
  refine At.thenCode ?_
  refine C.seq ?_
  refine C.region ?_
  refine W.move rfl rfl ?_
  refine W.call Try.call40 rfl (Let.Public_ok _ (by omega) _) rfl ?_
  rintro v8 w8 ⟨rfl, rfl⟩
  refine W.call Try.call36 rfl (Let.Name_ok _ _) rfl ?_
  rintro v9 w9 ⟨rfl, hX9⟩
  rw [← hK]
  refine W.alloc (z := .agg (List.replicate 32 (byteV 0)).toArray) (List.replicate 32 (byteV 0)) (by kernel_rfl) rfl rfl ?_
  intro g5 w5 hg5 hX5 hB5
  refine W.storeA (K.map byteV) rfl rfl hB5 (by rw [List.length_map, hKl]; rfl) (by rw [List.length_map, hKl]; kernel_rfl) (bytes_oneCell _) ?_
  intro w6 hc6 hB6
  have hl4 := hB4.lt
  have hs9 := hX9.size
  have hX6 : Ext w w6 := ((hX4.ext hX9).ext hX5).news hc6 fun k hk => Or.inr (by have := hX4.size; omega)
  have hB4a : Bk w6 g4 zeroLetC := ((hB4.ext hX9).ext hX5).chg hc6 (by omega)
  refine W.nil ?_
  refine At.thenCode ?_
  refine C.seq ?_
  refine C.region ?_
  refine W.move rfl rfl ?_
  refine W.call Try.call42 rfl (Words.Put64_ok none 0 [] x _ (Sl.none _ _) (by simp)) rfl ?_
  rintro v11 w11 ⟨hO11, hX11⟩
  rw [List.nil_append] at hO11
  obtain ⟨a11, c11, rfl, hS11, _⟩ := ownsRow_form hO11
  refine W.move rfl rfl ?_
  refine W.convIU (M := 18446744073709551616) rfl Try.underlying3 Try.underlying32 rfl rfl rfl ?_
  rw [hm]
  refine W.call Try.call42 rfl (Words.Put64_ok _ _ _ m _ hS11 (by rw [be64_length]; decide)) rfl ?_
  rintro v14 w14 ⟨hO14, hX14⟩
  obtain ⟨a14, c14, rfl, hS14, _⟩ := ownsRow_form hO14
  refine W.call Try.call41 rfl (Derive.Key_ok _ _ _ loopS _ hS14 (by rw [List.length_append, be64_length, be64_length]; decide) (by decide)) rfl ?_
  rintro v15 w15 ⟨rfl, hX15⟩
  refine W.alloc (z := .agg (List.replicate 32 (byteV 0)).toArray) (List.replicate 32 (byteV 0)) (by kernel_rfl) rfl rfl ?_
  intro g6 w16 hg16 hX16 hB16
  refine W.storeA ((loopK x m).map byteV) rfl rfl hB16 (by rw [List.length_map, hkl]; rfl) (by rw [List.length_map, hkl]; kernel_rfl) (bytes_oneCell _) ?_
  intro w7 hc7 hB7
  have hX67 : Ext w6 w7 := (((hX11.ext hX14).ext hX15).ext hX16).news hc7 fun k hk => Or.inr (by have := hX11.size; have := hX14.size; have := hX15.size; omega)
  have hX7 := hX6.ext hX67
  have hB4b := hB4a.ext hX67
  have hB5b := hB6.ext hX67
  refine W.nil ?_
  refine At.thenCode ?_
  refine C.seq ?_
  refine C.regionAny 7 ((fun v w => v = keyV K) :: (fun v w => v = keyV (loopK x m)) :: (fun v w => v = .slice (some ⟨g5, 0, none⟩) 32 32) :: (fun v w => v = .agg (noteC zeroNote).toArray) :: (fun v w => Rep w v (noteB zeroNote)) :: (fun v w => ∃ a c, v = .slice a (loopB x m).length c ∧ Bs w a c (loopB x m) ∧ ∀ ad, a = some ad → w7.heap.size ≤ ad.block) :: (fun v w => NewLet w7 w v K (loopB x m)) :: []) [(4, .pointer (some ⟨g4, 0, none⟩)), (5, .pointer (some ⟨g5, 0, none⟩)), (6, .pointer (some ⟨g6, 0, none⟩))] [] (Sub.cons (rfl) (Sub.cons (rfl) (Sub.cons (rfl) (Sub.nil)))) (Sub.nil) (Sub.cons (rfl) (Sub.cons (rfl) (Sub.cons (rfl) (Sub.nil)))) (by kernel_rfl) rfl rfl rfl (And.intro (fun _ _ _ h _ => h) (And.intro (fun _ _ _ h _ => h) (And.intro (fun _ _ _ h _ => h) (And.intro (fun _ _ _ h _ => h) (And.intro (fun _ _ _ h g => Rep.ext h g) (And.intro (fun _ _ _ ⟨a, c, e, h, q⟩ g => ⟨a, c, e, Sl.ext h g, q⟩) (And.intro (fun _ _ _ ⟨a, c, e, h, q⟩ g => ⟨a, c, e, Sl.ext h g, q⟩) (trivial)))))))) ?_ ?_
  · refine And.intro ?_ ?_
    · intro L_ wr hX_ hs_ hf_ hd_
      refine W.step [(5, _)] (Sub.cons (hs_ _ _ rfl) (Sub.refl _)) ?_
      refine W.loadA rfl ((hB5b.ext hX_).cells (o := 0)) Try.underlying23 rfl (by rw [List.drop_zero, List.length_map, hKl]; kernel_rfl) rfl ?_
      rw [List.drop_zero]
      refine W.nil ?_
      exact At.step (Ext.refl _) rfl
    refine And.intro ?_ ?_
    · intro L_ wr hX_ hs_ hf_ hd_
      refine W.step [(6, _)] (Sub.cons (hs_ _ _ rfl) (Sub.refl _)) ?_
      refine W.loadA rfl ((hB7.ext hX_).cells (o := 0)) Try.underlying23 rfl (by rw [List.drop_zero, List.length_map, hkl]; kernel_rfl) rfl ?_
      rw [List.drop_zero]
      refine W.nil ?_
      exact At.step (Ext.refl _) rfl
    refine And.intro ?_ ?_
    · intro L_ wr hX_ hs_ hf_ hd_
      refine W.step [(5, _)] (Sub.cons (hs_ _ _ rfl) (Sub.refl _)) ?_
      refine W.sliceA X8 Try.underlying23 rfl rfl ?_
      refine W.nil ?_
      exact At.step (Ext.refl _) rfl
    refine And.intro ?_ ?_
    · intro L_ wr hX_ hs_ hf_ hd_
      refine W.step [] (Sub.refl _) ?_
      refine W.buildS (fs := _) [(0, 1), (1, 1), (2, 32)] (noteC zeroNote) (noteC zeroNote) Try.underlying34 (by kernel_rfl) (by kernel_rfl) rfl rfl rfl ?_
      refine W.nil ?_
      exact At.step (Ext.refl _) rfl
    refine And.intro ?_ ?_
    · intro L_ wr hX_ hs_ hf_ hd_
      obtain ⟨v3, e3, r3⟩ := hd_ 3 rfl
      obtain rfl : (.agg (noteC zeroNote).toArray : Value) = v3 := Eq.symm r3
      refine W.step [(19, _)] (Sub.cons (e3 _ rfl) (Sub.refl _)) ?_
      refine W.call Try.call38 rfl (Cod.Note_ok zeroNote _ zeroNoteOk) rfl ?_
      rintro v20 w20 ⟨a20, c20, rfl, hN20, hX20⟩
      refine W.nil ?_
      exact At.step hX20 ⟨_, _, rfl, hN20.1⟩
    refine And.intro ?_ ?_
    · intro L_ wr hX_ hs_ hf_ hd_
      obtain ⟨v1, e1, r1⟩ := hd_ 1 rfl
      obtain rfl : (keyV (loopK x m) : Value) = v1 := Eq.symm r1
      obtain ⟨v2, e2, r2⟩ := hd_ 2 rfl
      obtain rfl : (.slice (some ⟨g5, 0, none⟩) 32 32 : Value) = v2 := Eq.symm r2
      obtain ⟨v4, e4, r4⟩ := hd_ 4 rfl
      obtain ⟨a4', c4', rfl, hb4⟩ := r4
      refine W.step [(17, _), (18, _), (20, _)] (Sub.cons (e1 _ rfl) (Sub.cons (e2 _ rfl) (Sub.cons (e4 _ rfl) (Sub.refl _)))) ?_
      have hs18 : Bs wr (some ⟨g5, 0, none⟩) 32 K := by
        have := Bk.bs (o := 0) (xs := K) (hB5b.ext hX_) (by rw [List.drop_zero, List.take_of_length_le (by simp)])
        rwa [hKl] at this
      have hse := Seal.Seal_ok (loopK x m) (some ⟨g5, 0, none⟩) 32 K _ _ (noteB zeroNote) wr hkl hs18 hb4 (by omega) (by omega)
      rw [hKl] at hse
      refine W.call Try.call13 rfl hse rfl ?_
      rintro v21 w21 ⟨hO21, hX21⟩
      rw [show sealV (loopK x m) K (noteB zeroNote) = loopB x m from by rw [hK]; rfl] at hO21
      obtain ⟨a21, c21, rfl, hS21, hb21⟩ := ownsRow_form hO21
      refine W.nil ?_
      exact At.step hX21 ⟨_, _, rfl, hS21, fun ad e => Nat.le_trans hX_.size (hb21 ad e)⟩
    refine And.intro ?_ ?_
    · intro L_ wr hX_ hs_ hf_ hd_
      obtain ⟨v0, e0, r0⟩ := hd_ 0 rfl
      obtain rfl : (keyV K : Value) = v0 := Eq.symm r0
      obtain ⟨v5, e5, r5⟩ := hd_ 5 rfl
      obtain ⟨a5, c5, rfl, hb5, hq5⟩ := r5
      refine W.step [(16, _), (21, _)] (Sub.cons (e0 _ rfl) (Sub.cons (e5 _ rfl) (Sub.refl _))) ?_
      refine W.buildS (fs := _) [(0, 32), (32, 1)] (letC K (.slice a5 (loopB x m).length c5)) zeroLetC Try.underlying36 (by kernel_rfl) (by kernel_rfl) rfl (by rw [fill_cons (us := K.map byteV) (off := 0) rfl (by rw [List.length_map, hKl]; rfl) (by rw [List.length_map, hKl]; decide), splice_key hKl, fill_cons (us := [Value.slice a5 (loopB x m).length c5]) (off := 32) rfl rfl (by rw [letC_length hKl]; exact Nat.le_refl _), splice_box hKl]; rfl) rfl ?_
      refine W.nil ?_
      exact At.step (Ext.refl _) ⟨a5, c5, rfl, hb5, hq5⟩
    exact trivial
  · intro L_ wr hX3 hs_ hv_
    obtain ⟨v6, e6, r6⟩ := hv_ 6 (by decide)
    obtain ⟨a6, c6, rfl, hb6, hq6⟩ := r6
    refine W.weaken (l' := [(22, _), (4, _), (5, _), (6, _)]) (Sub.cons (e6 _ rfl) (Sub.cons (hs_ _ _ rfl) (Sub.cons (hs_ _ _ rfl) (Sub.cons (hs_ _ _ rfl) (Sub.nil))))) ?_
    refine W.storeA (letC K (.slice a6 (loopB x m).length c6)) rfl rfl (hB4b.ext hX3) (by rw [letC_length hKl]; rfl) (by rw [letC_length hKl]; kernel_rfl) (letC_one _ _ _ _) ?_
    intro wz hcz hBz
    refine W.nil ?_
    refine At.thenCode ?_
    refine C.ret ?_
    -- RESULT IN A CELL
    have hs7 := hX7.size
    refine At.retC Try.results20 rfl (hBz.cells (o := 0)) Try.underlying36 rfl (by rw [List.drop_zero, letC_length hKl]; kernel_rfl) ⟨⟨a6, c6, by rw [List.drop_zero, hK], Sl.chg hb6 hcz (fun ad e _ hk => ?_), fun ad e => ?_⟩, ?_⟩
    · have := hq6 ad e
      have := hB4b.lt
      omega
    · have := hq6 ad e
      omega
    · exact (hX7.ext hX3).news hcz (fun k hk => Or.inr (by omega))
end Go.Proofs.Ytkjmllohbohliaa.Let
