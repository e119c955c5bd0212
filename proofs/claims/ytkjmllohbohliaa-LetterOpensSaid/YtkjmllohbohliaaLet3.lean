/- Package letter: what lies between two, letters of a talk, envelopes. -/
import Derived.Test.YtkjmllohbohliaaLet2
namespace Go.Proofs.Ytkjmllohbohliaa.Let
open Go Go.RowKit Go.Proofs.Ytkjmllohbohliaa.KW Go.Proofs.Ytkjmllohbohliaa.Words Go.Proofs.Ytkjmllohbohliaa.Sha Go.Proofs.Ytkjmllohbohliaa.RSha Go.Proofs.Ytkjmllohbohliaa.Derive Go.Proofs.Ytkjmllohbohliaa.Seal Go.Proofs.Ytkjmllohbohliaa.Grp Go.Proofs.Ytkjmllohbohliaa.Cod
set_option linter.unusedVariables false
set_option linter.unusedSimpArgs false
set_option maxRecDepth 100000
theorem bss_two {w : World} {ao : Option Addr} {c : Nat} {v1 v2 : Value} {x y : List UInt8} (h : Sl w ao 2 c 1 [v1, v2]) (h1 : Rep w v1 x) (h2 : Rep w v2 y) : Bss w ao c [x, y] := by
  refine ⟨[v1, v2], h, fun i hi => ?_⟩
  match i, hi with
  | 0, _ => exact ⟨v1, rfl, h1⟩
  | 1, _ => exact ⟨v2, rfl, h2⟩
theorem two_one (a1 : Option Addr) (n1 c1 : Nat) (a2 : Option Addr) (n2 c2 : Nat) : ∀ u ∈ ([.slice a1 n1 c1, .slice a2 n2 c2] : List Value), u.oneCell' = true := by
  intro u hu
  simp only [List.mem_cons, List.not_mem_nil, or_false] at hu
  rcases hu with rfl | rfl <;> rfl
theorem cat_two (x y : List UInt8) : catL [x, y] = x ++ y := by simp [catL]
def noteS : List UInt8 := [110, 111, 116, 101]
def betweenV (x y : Nat) (k : List UInt8) (n : Nat) : List UInt8 := keyD ((be64 (timesV y x) ++ k) ++ be64 n) noteS
theorem between_ok (x y : Nat) (k : List UInt8) (n : Int) (m : Nat) (w : World) (hx : x < 18446744073709551616) (hk : k.length = 32) (hm : iu 18446744073709551616 n = m) :
    Ct Try.prog 37 #[.int .u64 (x : Int), .int .u64 (y : Int), keyV k, .int .i64 n] w (fun v w' => v = keyV (betweenV x y k m) ∧ Ext w w') := by
  refine Ct.enter [(0, .int .u64 (x : Int)), (1, .int .u64 (y : Int)), (2, keyV k), (3, .int .i64 n)] Try.func37 rfl rfl rfl rfl ?_
  have hkl : (betweenV x y k m).length = 32 := keyD_length _ _
  refine C.seq ?_
  refine C.region ?_
  refine W.box (k.map byteV) rfl rfl rfl ?_
  intro g6 w6 hg6 hX6 hB6
  refine W.alloc (z := .agg (List.replicate 32 (byteV 0)).toArray) (List.replicate 32 (byteV 0)) (by kernel_rfl) rfl rfl ?_
  intro g8 w8 hg8 hX8 hB8
  refine W.nil ?_
  refine At.thenCode ?_
  refine C.seq ?_
  refine C.region ?_
  refine W.move rfl rfl ?_
  refine W.move rfl rfl ?_
  refine W.call Try.call64 rfl (Grp.Times_ok _ _ (by first | omega | decide) _) rfl ?_
  rintro v w' ⟨rfl, rfl⟩
  refine W.call Try.call44 rfl (Grp.Bytes_ok _ _) rfl ?_
  rintro v13 w13 ⟨hO13, hX13⟩
  obtain ⟨a13, c13, rfl, hS13, _⟩ := ownsRow_form hO13
  have hB6a := (hB6.ext hX8).ext hX13
  have hs15 : Bs w13 (some ⟨g6, 0, none⟩) 32 k := by
    have := Bk.bs (o := 0) (xs := k) hB6a (by rw [List.drop_zero, List.take_of_length_le (by simp)])
    rwa [hk] at this
  refine W.assign rfl rfl ?_
  refine W.nil ?_
  refine At.thenCode ?_
  refine C.seq ?_
  refine C.region ?_
  refine W.move rfl rfl ?_
  refine W.sliceA X8 Try.underlying23 rfl rfl ?_
  refine W.litV [.slice a13 (be64 (timesV y x)).length c13, .slice (some ⟨g6, 0, none⟩) 32 32] EB Try.underlying85 rfl rfl (two_one _ _ _ _ _ _) rfl rfl rfl ?_
  intro g16 w16 hg16 hX16 _ hs16
  have hbs := bss_two hs16 (x := be64 (timesV y x)) (y := k) ⟨_, _, rfl, hS13.ext hX16⟩ ⟨_, _, by rw [hk], hs15.ext hX16⟩
  refine W.call Try.call43 rfl (Let.Concat_ok _ _ [be64 (timesV y x), k] _ hbs (by show 2 ≤ 1000000; decide) (by rw [cat_two, List.length_append, be64_length, hk]; decide)) rfl ?_
  rintro v17 w17 ⟨hO17, hX17⟩
  rw [cat_two] at hO17
  obtain ⟨a17, c17, rfl, hS17, _⟩ := ownsRow_form hO17
  refine W.move rfl rfl ?_
  refine W.convIU (M := 18446744073709551616) rfl Try.underlying3 Try.underlying32 rfl rfl rfl ?_
  rw [hm]
  refine W.call Try.call42 rfl (Words.Put64_ok _ _ _ m _ hS17 (by rw [List.length_append, be64_length, hk]; decide)) rfl ?_
  rintro v20 w20 ⟨hO20, hX20⟩
  obtain ⟨a20, c20, rfl, hS20, _⟩ := ownsRow_form hO20
  refine W.call Try.call41 rfl (Derive.Key_ok _ _ _ noteS _ hS20 (by simp only [List.length_append, be64_length, hk]; decide) (by decide)) rfl ?_
  rintro v21 w21 ⟨rfl, hX21⟩
  have hXr := (((hX13.ext hX16).ext hX17).ext hX20).ext hX21
  refine W.storeA ((betweenV x y k m).map byteV) rfl rfl (hB8.ext hXr) (by rw [List.length_map, hkl]; rfl) (by rw [List.length_map, hkl]; kernel_rfl) (bytes_oneCell _) ?_
  intro wz hcz hBz
  refine W.nil ?_
  refine At.thenCode ?_
  refine C.ret ?_
  -- RESULT IN A CELL
  refine At.retC Try.results37 rfl (hBz.cells (o := 0)) Try.underlying23 rfl (by rw [List.drop_zero, List.length_map, hkl]; kernel_rfl) ⟨rfl, ?_⟩
  exact ((hX6.ext hX8).ext hXr).news hcz (fun k hk => Or.inr (by have := hX6.size; omega))
def talkB (x y m : Nat) (n : NoteD) : List UInt8 := sealV (betweenV x y (nameV y) m) (nameV y) (noteB n)
theorem talkB_length {x y m : Nat} {n : NoteD} (h : NoteOk n) : (talkB x y m n).length = 64 := by unfold talkB; rw [sealV_length, noteB_length h]
theorem loopB_length (x m : Nat) : (loopB x m).length = 64 := by unfold loopB; rw [sealV_length, noteB_length zeroNoteOk]
theorem Talk_ok (x y : Nat) (i : Int) (m : Nat) (n : NoteD) (w : World) (hx : x < 18446744073709551616) (hm : iu 18446744073709551616 i = m) (hn : NoteOk n) :
    Ct Try.prog 18 #[.int .u64 (x : Int), .int .u64 (y : Int), .int .i64 i, .agg (noteC n).toArray] w (fun v w' => NewLet w w' v (nameV y) (talkB x y m n) ∧ Ext w w') := by
  refine Ct.enter [(0, .int .u64 (x : Int)), (1, .int .u64 (y : Int)), (2, .int .i64 i), (3, .agg (noteC n).toArray)] Try.func18 rfl rfl rfl rfl ?_
  have hnl := noteC_length hn
  have hbl := noteB_length hn
  obtain ⟨K, hK⟩ : ∃ K, K = nameV y := ⟨_, rfl⟩
  have hKl : K.length = 32 := by rw [hK]; exact nameV_length _
  obtain ⟨T, hT⟩ : ∃ T, T = betweenV x y K m := ⟨_, rfl⟩
  have hTl : T.length = 32 := by rw [hT]; exact keyD_length _ _
  have htb : talkB x y m n = sealV T K (noteB n) := by rw [hT, hK]; rfl
  rw [htb]
  obtain ⟨B, hB⟩ : ∃ B, B = sealV T K (noteB n) := ⟨_, rfl⟩
  rw [← hB]
  refine C.seq ?_
  refine C.region ?_
  refine W.box (noteC n) rfl rfl rfl ?_
  intro g7 w7 hg7 hX7 hB7
  refine W.alloc (z := .agg zeroLetC.toArray) zeroLetC (by kernel_rfl) rfl rfl ?_
  intro g8 w8 hg8 hX8 hB8
  refine W.nil ?_
  refine At.thenCode ?_
  refine C.seq ?_
  refine C.region ?_
  refine W.move rfl rfl ?_
  refine W.call Try.call36 rfl (Let.Name_ok _ _) rfl ?_
  rintro v11 w11 ⟨rfl, hX11⟩
  rw [← hK]
  refine W.alloc (z := .agg (List.replicate 32 (byteV 0)).toArray) (List.replicate 32 (byteV 0)) (by kernel_rfl) rfl rfl ?_
  intro g9 w9 hg9 hX9 hB9
  refine W.storeA (K.map byteV) rfl rfl hB9 (by rw [List.length_map, hKl]; rfl) (by rw [List.length_map, hKl]; kernel_rfl) (bytes_oneCell _) ?_
  intro w10 hc10 hB10
  have hl8 := hB8.lt
  have hl7 := hB7.lt
  have hs7 := hX7.size
  have hs8 := hX8.size
  have hs11 := hX11.size
  have hX10 : Ext w w10 := (((hX7.ext hX8).ext hX11).ext hX9).news hc10 fun k hk => Or.inr (by omega)
  have hB8a : Bk w10 g8 zeroLetC := ((hB8.ext hX11).ext hX9).chg hc10 (by omega)
  have hB7a : Bk w10 g7 (noteC n) := (((hB7.ext hX8).ext hX11).ext hX9).chg hc10 (by omega)
  refine W.nil ?_
  refine At.thenCode ?_
  refine C.seq ?_
  refine C.regionAny 11 ((fun v w => v = keyV K) :: (fun v w => v = .int .u64 (x : Int)) :: (fun v w => v = .int .u64 (y : Int)) :: (fun v w => v = keyV K) :: (fun v w => v = .int .i64 i) :: (fun v w => v = keyV T) :: (fun v w => v = .slice (some ⟨g9, 0, none⟩) 32 32) :: (fun v w => v = .agg (noteC n).toArray) :: (fun v w => Rep w v (noteB n)) :: (fun v w => ∃ a c, v = .slice a B.length c ∧ Bs w a c B ∧ ∀ ad, a = some ad → w10.heap.size ≤ ad.block) :: (fun v w => NewLet w10 w v K B) :: []) [(0, .int .u64 (x : Int)), (1, .int .u64 (y : Int)), (2, .int .i64 i), (7, .pointer (some ⟨g7, 0, none⟩)), (8, .pointer (some ⟨g8, 0, none⟩)), (9, .pointer (some ⟨g9, 0, none⟩))] [] (Sub.cons (rfl) (Sub.cons (rfl) (Sub.cons (rfl) (Sub.cons (rfl) (Sub.cons (rfl) (Sub.cons (rfl) (Sub.nil))))))) (Sub.nil) (Sub.cons (rfl) (Sub.cons (rfl) (Sub.cons (rfl) (Sub.cons (rfl) (Sub.cons (rfl) (Sub.cons (rfl) (Sub.nil))))))) (by kernel_rfl) rfl rfl rfl (And.intro (fun _ _ _ h _ => h) (And.intro (fun _ _ _ h _ => h) (And.intro (fun _ _ _ h _ => h) (And.intro (fun _ _ _ h _ => h) (And.intro (fun _ _ _ h _ => h) (And.intro (fun _ _ _ h _ => h) (And.intro (fun _ _ _ h _ => h) (And.intro (fun _ _ _ h _ => h) (And.intro (fun _ _ _ h g => Rep.ext h g) (And.intro (fun _ _ _ ⟨a, c, e, h, q⟩ g => ⟨a, c, e, Sl.ext h g, q⟩) (And.intro (fun _ _ _ ⟨a, c, e, h, q⟩ g => ⟨a, c, e, Sl.ext h g, q⟩) (trivial)))))))))))) ?_ ?_
  · refine And.intro ?_ ?_
    · intro L_ wr hX_ hs_ hf_ hd_
      refine W.step [(9, _)] (Sub.cons (hs_ _ _ rfl) (Sub.refl _)) ?_
      refine W.loadA rfl ((hB10.ext hX_).cells (o := 0)) Try.underlying23 rfl (by rw [List.drop_zero, List.length_map, hKl]; kernel_rfl) rfl ?_
      rw [List.drop_zero]
      refine W.nil ?_
      exact At.step (Ext.refl _) rfl
    refine And.intro ?_ ?_
    · intro L_ wr hX_ hs_ hf_ hd_
      refine W.step [(0, _)] (Sub.cons (hs_ _ _ rfl) (Sub.refl _)) ?_
      refine W.move rfl rfl ?_
      refine W.nil ?_
      exact At.step (Ext.refl _) rfl
    refine And.intro ?_ ?_
    · intro L_ wr hX_ hs_ hf_ hd_
      refine W.step [(1, _)] (Sub.cons (hs_ _ _ rfl) (Sub.refl _)) ?_
      refine W.move rfl rfl ?_
      refine W.nil ?_
      exact At.step (Ext.refl _) rfl
    refine And.intro ?_ ?_
    · intro L_ wr hX_ hs_ hf_ hd_
      refine W.step [(9, _)] (Sub.cons (hs_ _ _ rfl) (Sub.refl _)) ?_
      refine W.loadA rfl ((hB10.ext hX_).cells (o := 0)) Try.underlying23 rfl (by rw [List.drop_zero, List.length_map, hKl]; kernel_rfl) rfl ?_
      rw [List.drop_zero]
      refine W.nil ?_
      exact At.step (Ext.refl _) rfl
    refine And.intro ?_ ?_
    · intro L_ wr hX_ hs_ hf_ hd_
      refine W.step [(2, _)] (Sub.cons (hs_ _ _ rfl) (Sub.refl _)) ?_
      refine W.move rfl rfl ?_
      refine W.nil ?_
      exact At.step (Ext.refl _) rfl
    refine And.intro ?_ ?_
    · intro L_ wr hX_ hs_ hf_ hd_
      obtain ⟨v1, e1, r1⟩ := hd_ 1 rfl
      obtain rfl : (.int .u64 (x : Int) : Value) = v1 := Eq.symm r1
      obtain ⟨v2, e2, r2⟩ := hd_ 2 rfl
      obtain rfl : (.int .u64 (y : Int) : Value) = v2 := Eq.symm r2
      obtain ⟨v3, e3, r3⟩ := hd_ 3 rfl
      obtain rfl : (keyV K : Value) = v3 := Eq.symm r3
      obtain ⟨v4, e4, r4⟩ := hd_ 4 rfl
      obtain rfl : (.int .i64 i : Value) = v4 := Eq.symm r4
      refine W.step [(13, _), (14, _), (15, _), (16, _)] (Sub.cons (e1 _ rfl) (Sub.cons (e2 _ rfl) (Sub.cons (e3 _ rfl) (Sub.cons (e4 _ rfl) (Sub.refl _))))) ?_
      refine W.call Try.call37 rfl (Let.between_ok x y K i m _ hx hKl hm) rfl ?_
      rintro v17 w17 ⟨rfl, hX17⟩
      rw [← hT]
      refine W.nil ?_
      exact At.step hX17 rfl
    refine And.intro ?_ ?_
    · intro L_ wr hX_ hs_ hf_ hd_
      refine W.step [(9, _)] (Sub.cons (hs_ _ _ rfl) (Sub.refl _)) ?_
      refine W.sliceA X8 Try.underlying23 rfl rfl ?_
      refine W.nil ?_
      exact At.step (Ext.refl _) rfl
    refine And.intro ?_ ?_
    · intro L_ wr hX_ hs_ hf_ hd_
      refine W.step [(7, _)] (Sub.cons (hs_ _ _ rfl) (Sub.refl _)) ?_
      refine W.loadA rfl ((hB7a.ext hX_).cells (o := 0)) Try.underlying34 rfl (by rw [List.drop_zero, hnl]; kernel_rfl) rfl ?_
      rw [List.drop_zero]
      refine W.nil ?_
      exact At.step (Ext.refl _) rfl
    refine And.intro ?_ ?_
    · intro L_ wr hX_ hs_ hf_ hd_
      obtain ⟨v7, e7, r7⟩ := hd_ 7 rfl
      obtain rfl : (.agg (noteC n).toArray : Value) = v7 := Eq.symm r7
      refine W.step [(19, _)] (Sub.cons (e7 _ rfl) (Sub.refl _)) ?_
      refine W.call Try.call38 rfl (Cod.Note_ok n _ hn) rfl ?_
      rintro v20 w20 ⟨a20, c20, rfl, hN20, hX20⟩
      refine W.nil ?_
      exact At.step hX20 ⟨_, _, rfl, hN20.1⟩
    refine And.intro ?_ ?_
    · intro L_ wr hX_ hs_ hf_ hd_
      obtain ⟨v5, e5, r5⟩ := hd_ 5 rfl
      obtain rfl : (keyV T : Value) = v5 := Eq.symm r5
      obtain ⟨v6, e6, r6⟩ := hd_ 6 rfl
      obtain rfl : (.slice (some ⟨g9, 0, none⟩) 32 32 : Value) = v6 := Eq.symm r6
      obtain ⟨v8, e8, r8⟩ := hd_ 8 rfl
      obtain ⟨a8', c8', rfl, hb8⟩ := r8
      refine W.step [(17, _), (18, _), (20, _)] (Sub.cons (e5 _ rfl) (Sub.cons (e6 _ rfl) (Sub.cons (e8 _ rfl) (Sub.refl _)))) ?_
      have hs18 : Bs wr (some ⟨g9, 0, none⟩) 32 K := by
        have := Bk.bs (o := 0) (xs := K) (hB10.ext hX_) (by rw [List.drop_zero, List.take_of_length_le (by simp)])
        rwa [hKl] at this
      have hse := Seal.Seal_ok T (some ⟨g9, 0, none⟩) 32 K _ _ (noteB n) wr hTl hs18 hb8 (by omega) (by omega)
      rw [hKl] at hse
      refine W.call Try.call13 rfl hse rfl ?_
      rintro v21 w21 ⟨hO21, hX21⟩
      rw [← hB] at hO21
      obtain ⟨a21, c21, rfl, hS21, hb21⟩ := ownsRow_form hO21
      refine W.nil ?_
      exact At.step hX21 ⟨_, _, rfl, hS21, fun ad e => Nat.le_trans hX_.size (hb21 ad e)⟩
    refine And.intro ?_ ?_
    · intro L_ wr hX_ hs_ hf_ hd_
      obtain ⟨v0, e0, r0⟩ := hd_ 0 rfl
      obtain rfl : (keyV K : Value) = v0 := Eq.symm r0
      obtain ⟨v9, e9, r9⟩ := hd_ 9 rfl
      obtain ⟨a9, c9, rfl, hb9, hq9⟩ := r9
      refine W.step [(12, _), (21, _)] (Sub.cons (e0 _ rfl) (Sub.cons (e9 _ rfl) (Sub.refl _))) ?_
      refine W.buildS (fs := _) [(0, 32), (32, 1)] (letC K (.slice a9 B.length c9)) zeroLetC Try.underlying36 (by kernel_rfl) (by kernel_rfl) rfl (by rw [fill_cons (us := K.map byteV) (off := 0) rfl (by rw [List.length_map, hKl]; rfl) (by rw [List.length_map, hKl]; decide), splice_key hKl, fill_cons (us := [Value.slice a9 B.length c9]) (off := 32) rfl rfl (by rw [letC_length hKl]; exact Nat.le_refl _), splice_box hKl]; rfl) rfl ?_
      refine W.nil ?_
      exact At.step (Ext.refl _) ⟨a9, c9, rfl, hb9, hq9⟩
    exact trivial
  · intro L_ wr hX2 hs_ hv_
    obtain ⟨v10, e10, r10⟩ := hv_ 10 (by decide)
    obtain ⟨a10, c10, rfl, hb10, hq10⟩ := r10
    refine W.weaken (l' := [(22, _), (0, _), (1, _), (2, _), (7, _), (8, _), (9, _)]) (Sub.cons (e10 _ rfl) (Sub.cons (hs_ _ _ rfl) (Sub.cons (hs_ _ _ rfl) (Sub.cons (hs_ _ _ rfl) (Sub.cons (hs_ _ _ rfl) (Sub.cons (hs_ _ _ rfl) (Sub.cons (hs_ _ _ rfl) (Sub.nil)))))))) ?_
    refine W.storeA (letC K (.slice a10 B.length c10)) rfl rfl (hB8a.ext hX2) (by rw [letC_length hKl]; rfl) (by rw [letC_length hKl]; kernel_rfl) (letC_one _ _ _ _) ?_
    intro wz hcz hBz
    refine W.nil ?_
    refine At.thenCode ?_
    refine C.ret ?_
    -- RESULT IN A CELL
    have hs10 := hX10.size
    refine At.retC Try.results18 rfl (hBz.cells (o := 0)) Try.underlying36 rfl (by rw [List.drop_zero, letC_length hKl]; kernel_rfl) ⟨⟨a10, c10, by rw [List.drop_zero, hK], Sl.chg hb10 hcz (fun ad e _ hk => ?_), fun ad e => ?_⟩, ?_⟩
    · have := hq10 ad e
      have := hB8a.lt
      omega
    · have := hq10 ad e
      omega
    · exact (hX10.ext hX2).news hcz (fun k hk => Or.inr (by omega))
def envB (x e : Nat) (k b : List UInt8) : List UInt8 := be64 (timesV 37 e) ++ sealV (sealedV x e) [] (k ++ b)
theorem envB_length {x e : Nat} {k b : List UInt8} (h : k.length = 32) : (envB x e k b).length = b.length + 56 := by
  unfold envB; rw [List.length_append, be64_length, sealV_length, List.length_append, h]; omega
theorem Envelope_ok (x e : Nat) (k : List UInt8) (a : Option Addr) (c : Nat) (b : List UInt8) (w : World) (he : e < 18446744073709551616) (hk : k.length = 32) (hb : Bs w a c b) (hl : b.length ≤ 200000) :
    Ct Try.prog 21 #[.int .u64 (x : Int), .int .u64 (e : Int), .agg (letC k (.slice a b.length c)).toArray] w (fun v w' => Ow w' w.heap.size 5 v (envB x e k b) ∧ Ext w w') := by
  refine Ct.enter [(0, .int .u64 (x : Int)), (1, .int .u64 (e : Int)), (2, .agg (letC k (.slice a b.length c)).toArray)] Try.func21 rfl rfl rfl rfl ?_
  have hkl : (sealedV x e).length = 32 := keyD_length _ _
  refine C.seq ?_
  refine C.region ?_
  refine W.box (letC k (.slice a b.length c)) rfl rfl rfl ?_
  intro g5 w5 hg5 hX5 hB5
  refine W.assign rfl rfl ?_
  refine W.nil ?_
  refine At.thenCode ?_
  refine C.seq ?_
  refine C.regionAny 7 ((fun v w => v = .pointer (some ⟨g5, 0, none⟩)) :: (fun v w => v = .slice (some ⟨g5, 0, none⟩) 32 32) :: (fun v w => v = .pointer (some ⟨g5, 32, none⟩)) :: (fun v w => v = .slice a b.length c) :: (fun v w => ∃ ao c', v = .slice ao 2 c' ∧ Bss w ao c' [k, b]) :: (fun v w => Rep w v (k ++ b)) :: (fun v w => Rep w v (k ++ b)) :: []) [(0, .int .u64 (x : Int)), (1, .int .u64 (e : Int)), (5, .pointer (some ⟨g5, 0, none⟩))] [] (Sub.cons (rfl) (Sub.cons (rfl) (Sub.cons (rfl) (Sub.nil)))) (Sub.nil) (Sub.cons (rfl) (Sub.cons (rfl) (Sub.cons (rfl) (Sub.nil)))) (by kernel_rfl) rfl rfl rfl (And.intro (fun _ _ _ h _ => h) (And.intro (fun _ _ _ h _ => h) (And.intro (fun _ _ _ h _ => h) (And.intro (fun _ _ _ h _ => h) (And.intro (fun _ _ _ ⟨ao, c', e, h⟩ g => ⟨ao, c', e, Bss.ext h g⟩) (And.intro (fun _ _ _ h g => Rep.ext h g) (And.intro (fun _ _ _ h g => Rep.ext h g) (trivial)))))))) ?_ ?_
  · refine And.intro ?_ ?_
    · intro L_ wr hX_ hs_ hf_ hd_
      refine W.step [(5, _)] (Sub.cons (hs_ _ _ rfl) (Sub.refl _)) ?_
      refine W.fieldB (off := 0) (size := 32) (t := 23) (Fld.of (by kernel_rfl)) rfl rfl rfl ?_
      refine W.nil ?_
      exact At.step (Ext.refl _) rfl
    refine And.intro ?_ ?_
    · intro L_ wr hX_ hs_ hf_ hd_
      obtain ⟨v0, e0, r0⟩ := hd_ 0 rfl
      obtain rfl : (.pointer (some ⟨g5, 0, none⟩) : Value) = v0 := Eq.symm r0
      refine W.step [(8, _)] (Sub.cons (e0 _ rfl) (Sub.refl _)) ?_
      refine W.sliceA X8 Try.underlying23 rfl rfl ?_
      refine W.nil ?_
      exact At.step (Ext.refl _) rfl
    refine And.intro ?_ ?_
    · intro L_ wr hX_ hs_ hf_ hd_
      refine W.step [(5, _)] (Sub.cons (hs_ _ _ rfl) (Sub.refl _)) ?_
      refine W.fieldB (off := 32) (size := 1) (t := 24) (Fld.of (by kernel_rfl)) rfl rfl rfl ?_
      refine W.nil ?_
      exact At.step (Ext.refl _) rfl
    refine And.intro ?_ ?_
    · intro L_ wr hX_ hs_ hf_ hd_
      obtain ⟨v2, e2, r2⟩ := hd_ 2 rfl
      obtain rfl : (.pointer (some ⟨g5, 32, none⟩) : Value) = v2 := Eq.symm r2
      refine W.step [(10, _)] (Sub.cons (e2 _ rfl) (Sub.refl _)) ?_
      refine W.loadB (v := .slice a b.length c) rfl Try.underlying24 rfl (hB5.ext hX_) (letC_get hk _) rfl ?_
      refine W.nil ?_
      exact At.step (Ext.refl _) rfl
    refine And.intro ?_ ?_
    · intro L_ wr hX_ hs_ hf_ hd_
      obtain ⟨v1, e1, r1⟩ := hd_ 1 rfl
      obtain rfl : (.slice (some ⟨g5, 0, none⟩) 32 32 : Value) = v1 := Eq.symm r1
      obtain ⟨v3, e3, r3⟩ := hd_ 3 rfl
      obtain rfl : (.slice a b.length c : Value) = v3 := Eq.symm r3
      refine W.step [(9, _), (11, _)] (Sub.cons (e1 _ rfl) (Sub.cons (e3 _ rfl) (Sub.refl _))) ?_
      refine W.litV [.slice (some ⟨g5, 0, none⟩) 32 32, .slice a b.length c] EB Try.underlying85 rfl rfl (two_one _ _ _ _ _ _) rfl rfl rfl ?_
      intro g12 w12 hg12 hX12 _ hs12
      have hs9 : Bs w12 (some ⟨g5, 0, none⟩) 32 k := by
        have := Bk.bs (o := 0) (xs := k) ((hB5.ext hX_).ext hX12) (by unfold letC; rw [List.drop_zero, List.take_append_of_le_length (by simp), List.take_of_length_le (by simp)])
        rwa [hk] at this
      have hbs12 := bss_two hs12 (x := k) (y := b) ⟨_, _, by rw [hk], hs9⟩ ⟨_, _, rfl, ((hb.ext hX5).ext hX_).ext hX12⟩
      refine W.nil ?_
      exact At.step hX12 ⟨_, _, rfl, hbs12⟩
    refine And.intro ?_ ?_
    · intro L_ wr hX_ hs_ hf_ hd_
      obtain ⟨v4, e4, r4⟩ := hd_ 4 rfl
      obtain ⟨a4, c4, rfl, hb4⟩ := r4
      refine W.step [(12, _)] (Sub.cons (e4 _ rfl) (Sub.refl _)) ?_
      refine W.call Try.call43 rfl (Let.Concat_ok _ _ [k, b] _ hb4 (by show 2 ≤ 1000000; decide) (by rw [cat_two, List.length_append, hk]; omega)) rfl ?_
      rintro v13 w13 ⟨hO13, hX13⟩
      rw [cat_two] at hO13
      obtain ⟨a13, c13, rfl, hS13, _⟩ := ownsRow_form hO13
      refine W.nil ?_
      exact At.step hX13 ⟨_, _, rfl, hS13⟩
    refine And.intro ?_ ?_
    · intro L_ wr hX_ hs_ hf_ hd_
      obtain ⟨v5, e5, r5⟩ := hd_ 5 rfl
      obtain ⟨a5, c5, rfl, hb5⟩ := r5
      refine W.step [(13, _)] (Sub.cons (e5 _ rfl) (Sub.refl _)) ?_
      refine W.assign rfl rfl ?_
      refine W.nil ?_
      exact At.step (Ext.refl _) ⟨_, _, rfl, hb5⟩
    exact trivial
  · intro L_ wr hX1 hs_ hv_
    obtain ⟨v6, e6, r6⟩ := hv_ 6 (by decide)
    obtain ⟨a6, c6, rfl, hb6⟩ := r6
    refine W.weaken (l' := [(7, _), (0, _), (1, _), (5, _)]) (Sub.cons (e6 _ rfl) (Sub.cons (hs_ _ _ rfl) (Sub.cons (hs_ _ _ rfl) (Sub.cons (hs_ _ _ rfl) (Sub.nil))))) ?_
    refine W.nil ?_
    refine At.thenCode ?_
    refine C.seq ?_
    refine C.region ?_
    refine W.move rfl rfl ?_
    refine W.call Try.call45 rfl (Grp.Base_ok _ (by first | omega | decide) _) rfl ?_
    rintro v w' ⟨rfl, rfl⟩
    refine W.call Try.call44 rfl (Grp.Bytes_ok _ _) rfl ?_
    rintro v16 w16 ⟨hO16, hX16⟩
    obtain ⟨a16, c16, rfl, hS16, _⟩ := ownsRow_form hO16
    refine W.move rfl rfl ?_
    refine W.move rfl rfl ?_
    refine W.call Try.call46 rfl (Let.sealed_ok _ _ (by omega) _) rfl ?_
    rintro v19 w19 ⟨rfl, hX19⟩
    refine W.move rfl rfl ?_
    refine W.call Try.call13 rfl (Seal.Seal_ok (sealedV x e) none 0 [] _ _ (k ++ b) _ hkl (Sl.none _ _) ((hb6.ext hX16).ext hX19) (by simp) (by rw [List.length_append, hk]; omega)) rfl ?_
    rintro v21 w21 ⟨hO21, hX21⟩
    obtain ⟨a21, c21, rfl, hS21, _⟩ := ownsRow_form hO21
    refine W.litV [.slice a16 (be64 (timesV 37 e)).length c16, .slice a21 (sealV (sealedV x e) [] (k ++ b)).length c21] EB Try.underlying85 rfl rfl (two_one _ _ _ _ _ _) rfl rfl rfl ?_
    intro g22 w22 hg22 hX22 _ hs22
    have hbs := bss_two hs22 (x := be64 (timesV 37 e)) (y := sealV (sealedV x e) [] (k ++ b)) ⟨_, _, rfl, ((hS16.ext hX19).ext hX21).ext hX22⟩ ⟨_, _, rfl, hS21.ext hX22⟩
    refine W.call Try.call43 rfl (Let.Concat_ok _ _ [be64 (timesV 37 e), sealV (sealedV x e) [] (k ++ b)] _ hbs (by show 2 ≤ 1000000; decide) (by rw [cat_two, List.length_append, be64_length, sealV_length, List.length_append, hk]; omega)) rfl ?_
    rintro v23 w23 ⟨hO23, hX23⟩
    rw [cat_two] at hO23
    have hXr := (((hX16.ext hX19).ext hX21).ext hX22)
    refine W.assign rfl rfl ?_
    refine W.nil ?_
    refine At.thenCode ?_
    refine C.ret ?_
    refine At.ret1 Try.results21 rfl ?_
    have hXa := (hX5.ext hX1).ext hXr
    exact ⟨ownsRow_base hO23 hXa.size, hXa.ext hX23⟩
theorem RName_ok (x : Nat) (w : World) : Ct Try.prog 22 #[.int .u64 (x : Int)] w (fun v w' => v = keyV (nameV x) ∧ Ext w w') := by
  refine Ct.enter [(0, .int .u64 (x : Int))] Try.func22 rfl rfl rfl rfl ?_
  have hkl := nameV_length x
  refine C.seq ?_
  refine C.region ?_
  refine W.alloc (z := .agg (List.replicate 32 (byteV 0)).toArray) (List.replicate 32 (byteV 0)) (by kernel_rfl) rfl rfl ?_
  intro g2 w2 hg2 hX2 hB2
  refine W.nil ?_
  refine At.thenCode ?_
  refine C.seq ?_
  refine C.region ?_
  refine W.move rfl rfl ?_
  refine W.call Try.call48 rfl (Grp.RBytes_ok _ _) rfl ?_
  rintro v4 w4 ⟨hO4, hX4⟩
  obtain ⟨a4, c4, rfl, hS4, _⟩ := ownsRow_form hO4
  refine W.call Try.call47 rfl (RSha_ok _ _ _ _ hS4 (by rw [be64_length]; decide)) rfl ?_
  rintro v5 w5 ⟨rfl, hX5⟩
  refine W.storeA ((nameV x).map byteV) rfl rfl ((hB2.ext hX4).ext hX5) (by rw [List.length_map, hkl]; rfl) (by rw [List.length_map, hkl]; kernel_rfl) (bytes_oneCell _) ?_
  intro wz hcz hBz
  refine W.nil ?_
  refine At.thenCode ?_
  refine C.ret ?_
  -- RESULT IN A CELL
  refine At.retC Try.results22 rfl (hBz.cells (o := 0)) Try.underlying23 rfl (by rw [List.drop_zero, List.length_map, hkl]; kernel_rfl) ⟨rfl, ?_⟩
  exact ((hX2.ext hX4).ext hX5).news hcz (fun k hk => Or.inr (by omega))
end Go.Proofs.Ytkjmllohbohliaa.Let
