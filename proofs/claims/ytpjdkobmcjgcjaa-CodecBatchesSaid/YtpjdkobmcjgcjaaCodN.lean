/- The reference's functions that write: submissions. -/
import Derived.Test.YtpjdkobmcjgcjaaCodZ
namespace Go.Proofs.Ytpjdkobmcjgcjaa.Cod
open Go Go.RowKit Go.Proofs.Ytpjdkobmcjgcjaa.KW Go.Proofs.Ytpjdkobmcjgcjaa.Words Go.Proofs.Ytpjdkobmcjgcjaa.Grp
set_option linter.unusedVariables false
set_option linter.unusedSimpArgs false
set_option maxRecDepth 100000
theorem Rep.stay {w w' : World} {v : Value} {xs : List UInt8} (h : Rep w v xs) (g : Ext w w') : Rep w' v xs := by
  obtain ⟨a, c, e, h⟩ := h
  exact ⟨a, c, e, h.ext g⟩
theorem RSubmission_ok (s : SubD) (vb : Value) (w : World) (hv : RByt (fun _ => False) w [vb] s.box) (ho : SubOk s) (hlen : s.box.length ≤ 9223372036854775807) :
    Ct Try.prog 16 #[.agg (subC s vb).toArray] w (fun v w' => ∃ ao' c', v = .tuple #[.slice ao' (subB s).length c', .int .i64 (subE s : Int)] ∧ NewB w w' ao' c' (subB s) ∧ Ext w w') := by
  refine Ct.enter [(0, .agg (subC s vb).toArray)] Try.func16 rfl rfl rfl rfl ?_
  have hu := ho.1
  have hg0 := subC_get (v := vb) ho.1 0
  have hg1 := subC_get (v := vb) ho.1 1
  have hg2 := subC_get (v := vb) ho.1 2
  have hg3 := subC_get (v := vb) ho.1 3
  have hg4 := subC_get (v := vb) ho.1 4
  have hg5 := subC_get (v := vb) ho.1 5
  obtain ⟨ab, cb, rfl, hsb, _⟩ := hv.form
  refine C.seq ?_
  refine C.region ?_
  refine W.box (subC s (.slice ab s.box.length cb)) rfl rfl rfl ?_
  intro g1 w1 hg1' hXb hB1
  refine W.assign rfl rfl ?_
  refine W.assign rfl rfl ?_
  refine W.nil ?_
  refine At.thenCode ?_
  refine C.seq ?_
  refine C.seq ?_
  refine C.region ?_
  refine W.fieldB (off := 32) (size := 2) (t := 36) (Fld.of (by kernel_rfl)) rfl rfl rfl ?_
  refine W.fieldB (off := 1) (size := 1) (t := 27) (Fld.of (by kernel_rfl)) rfl rfl rfl ?_
  refine W.loadB (v := .slice ab s.box.length cb) rfl Try.underlying27 rfl hB1 hg1 rfl ?_
  refine W.lenS rfl Try.underlying27 rfl ?_
  refine W.gtrI rfl rfl rfl ?_
  refine W.nil ?_
  refine At.thenCode ?_
  first | refine C.condD rfl (fun c9 => ?_) (fun c9 => ?_) | refine C.cond rfl (fun c9 => ?_) (fun c9 => ?_)
  · have hEE : subE s = 3 := by unfold subE; rw [if_pos (by omega)]
    have hEB : subB s = [] := by unfold subB; rw [hEE]; rfl
    refine C.seq ?_
    refine C.region ?_
    refine W.assign rfl rfl ?_
    refine W.assign rfl rfl ?_
    refine W.nil ?_
    refine At.thenCode ?_
    refine C.ret ?_
    refine At.thenRet ?_
    refine At.ret2 Try.results16 rfl rfl ?_
    exact ⟨none, 0, by rw [hEB, hEE]; rfl, by rw [hEB]; exact NewB.nil _ _, hXb⟩
  · have hb20 : s.box.length ≤ 1048576 := by omega
    refine C.skip ?_
    refine At.thenCode ?_
    refine C.seq ?_
    refine C.seq ?_
    refine C.region ?_
    refine W.fieldB (off := 32) (size := 2) (t := 36) (Fld.of (by kernel_rfl)) rfl rfl rfl ?_
    refine W.fieldB (off := 0) (size := 1) (t := 22) (Fld.of (by kernel_rfl)) rfl rfl rfl ?_
    refine W.loadB (v := u64V s.x) rfl Try.underlying22 rfl hB1 hg0 rfl ?_
    refine W.call Try.call41 rfl (Grp.RRight_ok _ _) rfl ?_
    rintro v w' ⟨rfl, rfl⟩
    first | refine W.notD rfl rfl ?_ | refine W.notB rfl rfl ?_
    refine W.nil ?_
    refine At.thenCode ?_
    first | refine C.condD rfl (fun c14 => ?_) (fun c14 => ?_) | refine C.cond rfl (fun c14 => ?_) (fun c14 => ?_)
    · have hEE : subE s = 1 := by unfold subE; rw [if_neg (by omega), if_neg (by simpa using c14)]
      have hEB : subB s = [] := by unfold subB; rw [hEE]; rfl
      refine C.seq ?_
      refine C.region ?_
      refine W.assign rfl rfl ?_
      refine W.assign rfl rfl ?_
      refine W.nil ?_
      refine At.thenCode ?_
      refine C.ret ?_
      refine At.thenRet ?_
      refine At.ret2 Try.results16 rfl rfl ?_
      exact ⟨none, 0, by rw [hEB, hEE]; rfl, by rw [hEB]; exact NewB.nil _ _, hXb⟩
    · have hEE : subE s = 0 := by unfold subE; rw [if_neg (by omega), if_pos (by simpa using c14)]
      have hEB : subB s = s.user ++ (be64 s.x ++ (be64 s.box.length ++ (s.box ++ (be64 s.c1 ++ (be64 s.s1 ++ (be64 s.c2 ++ be64 s.s2)))))) := by unfold subB; rw [if_pos hEE]
      refine C.skip ?_
      refine At.thenCode ?_
      refine C.seq ?_
      refine C.regionAny 6 ((fun v w => v = .pointer (some ⟨g1, 0, none⟩)) :: (fun v w => v = .slice (some ⟨g1, 0, none⟩) 32 32) :: (fun v w => Rep w v s.user) :: (fun v w => v = .pointer (some ⟨g1, 32, none⟩)) :: (fun v w => v = .pointer (some ⟨g1, 32, none⟩)) :: (fun v w => v = .int .u64 (s.x : Int)) :: []) [(1, .pointer (some ⟨g1, 0, none⟩))] [] (Sub.cons (rfl) (Sub.nil)) (Sub.nil) (Sub.cons (rfl) (Sub.nil)) (by kernel_rfl) rfl rfl rfl (And.intro (fun _ _ _ h _ => h) (And.intro (fun _ _ _ h _ => h) (And.intro (fun _ _ _ h g => Rep.stay h g) (And.intro (fun _ _ _ h _ => h) (And.intro (fun _ _ _ h _ => h) (And.intro (fun _ _ _ h _ => h) (trivial))))))) ?_ ?_
      · refine And.intro ?_ ?_
        · intro L_ wr hX_ hs_ hf_ hd_
          refine W.step [(1, _)] (Sub.cons (hs_ _ _ rfl) (Sub.refl _)) ?_
          refine W.fieldB (off := 0) (size := 32) (t := 34) (Fld.of (by kernel_rfl)) rfl rfl rfl ?_
          refine W.nil ?_
          exact At.step (Ext.refl _) rfl
        refine And.intro ?_ ?_
        · intro L_ wr hX_ hs_ hf_ hd_
          obtain ⟨v0, e0, r0⟩ := hd_ 0 rfl
          obtain rfl : (.pointer (some ⟨g1, 0, none⟩) : Value) = v0 := Eq.symm r0
          refine W.step [(15, _)] (Sub.cons (e0 _ rfl) (Sub.refl _)) ?_
          refine W.sliceA X8 Try.underlying34 rfl rfl ?_
          refine W.nil ?_
          exact At.step (Ext.refl _) rfl
        refine And.intro ?_ ?_
        · intro L_ wr hX_ hs_ hf_ hd_
          obtain ⟨v1, e1, r1⟩ := hd_ 1 rfl
          obtain rfl : (.slice (some ⟨g1, 0, none⟩) 32 32 : Value) = v1 := Eq.symm r1
          refine W.step [(16, _)] (Sub.cons (e1 _ rfl) (Sub.refl _)) ?_
          have hs16 : Bs wr (some ⟨g1, 0, none⟩) 32 s.user := by
            have := Bk.bs (o := 0) (xs := s.user) (hB1.ext hX_) (by unfold subC; rw [List.drop_zero, List.take_append_of_le_length (by simp), List.take_of_length_le (by simp)])
            rwa [ho.1] at this
          refine W.appendB (ys := s.user) E8 Try.underlying27 rfl (look_eq rfl (by rw [ho.1])) (Ow.nil _ w1.heap.size 5) hs16 (by simp; omega) (Chg.size hX_) rfl ?_
          intro v17 w17 hO17 hg17 _
          rw [List.nil_append] at hO17
          refine W.nil ?_
          exact At.step ((Chg.of_grown hg17).mono fun k hk => by cases hk) (Ow.rep hO17)
        refine And.intro ?_ ?_
        · intro L_ wr hX_ hs_ hf_ hd_
          refine W.step [(1, _)] (Sub.cons (hs_ _ _ rfl) (Sub.refl _)) ?_
          refine W.fieldB (off := 32) (size := 2) (t := 36) (Fld.of (by kernel_rfl)) rfl rfl rfl ?_
          refine W.nil ?_
          exact At.step (Ext.refl _) rfl
        refine And.intro ?_ ?_
        · intro L_ wr hX_ hs_ hf_ hd_
          obtain ⟨v3, e3, r3⟩ := hd_ 3 rfl
          obtain rfl : (.pointer (some ⟨g1, 32, none⟩) : Value) = v3 := Eq.symm r3
          refine W.step [(18, _)] (Sub.cons (e3 _ rfl) (Sub.refl _)) ?_
          refine W.fieldB (off := 0) (size := 1) (t := 22) (Fld.of (by kernel_rfl)) rfl rfl rfl ?_
          refine W.nil ?_
          exact At.step (Ext.refl _) rfl
        refine And.intro ?_ ?_
        · intro L_ wr hX_ hs_ hf_ hd_
          obtain ⟨v4, e4, r4⟩ := hd_ 4 rfl
          obtain rfl : (.pointer (some ⟨g1, 32, none⟩) : Value) = v4 := Eq.symm r4
          refine W.step [(19, _)] (Sub.cons (e4 _ rfl) (Sub.refl _)) ?_
          refine W.loadB (v := u64V s.x) rfl Try.underlying22 rfl (hB1.ext hX_) hg0 rfl ?_
          refine W.nil ?_
          exact At.step (Ext.refl _) rfl
        exact trivial
      · intro L_ wr hX5 hs_ hv_
        obtain ⟨v2, e2, r2⟩ := hv_ 2 (by decide)
        obtain ⟨a2, c2, rfl, hb2⟩ := r2
        obtain ⟨v5, e5, r5⟩ := hv_ 5 (by decide)
        obtain rfl : (.int .u64 (s.x : Int) : Value) = v5 := Eq.symm r5
        refine W.weaken (l' := [(17, _), (20, _), (1, _)]) (Sub.cons (e2 _ rfl) (Sub.cons (e5 _ rfl) (Sub.cons (hs_ _ _ rfl) (Sub.nil)))) ?_
        have hXr := hX5
        refine W.call Try.call38 rfl (Words.RPut64_ok a2 c2 s.user s.x _ hb2 (by omega)) rfl ?_
        rintro v21 w21 ⟨hO21, hX21⟩
        obtain ⟨a21, c21, rfl, hS21, _⟩ := ownsRow_form hO21
        have hl21 : (s.user ++ be64 s.x).length = 40 := by rw [List.length_append, be64_length, hu]
        have hXA := (hXb.ext hXr).ext hX21
        have hBA := (hB1.ext hXr).ext hX21
        have hsA := hsb.ext hXA
        refine W.assign rfl rfl ?_
        refine W.nil ?_
        refine At.thenCode ?_
        refine C.seq ?_
        refine C.regionAny 10 ((fun v w => v = .slice a21 (s.user ++ be64 s.x).length c21) :: (fun v w => v = .pointer (some ⟨g1, 32, none⟩)) :: (fun v w => v = .pointer (some ⟨g1, 33, none⟩)) :: (fun v w => v = .slice ab s.box.length cb) :: (fun v w => v = .int .i64 (s.box.length : Int)) :: (fun v w => v = .int .u64 (s.box.length : Int)) :: (fun v w => Ow w w21.heap.size 5 v ((s.user ++ be64 s.x) ++ be64 s.box.length)) :: (fun v w => v = .pointer (some ⟨g1, 32, none⟩)) :: (fun v w => v = .pointer (some ⟨g1, 33, none⟩)) :: (fun v w => v = .slice ab s.box.length cb) :: []) [(1, .pointer (some ⟨g1, 0, none⟩)), (4, .slice a21 (s.user ++ be64 s.x).length c21)] [] (Sub.cons (rfl) (Sub.cons (rfl) (Sub.nil))) (Sub.nil) (Sub.cons (rfl) (Sub.cons (rfl) (Sub.nil))) (by kernel_rfl) rfl rfl rfl (And.intro (fun _ _ _ h _ => h) (And.intro (fun _ _ _ h _ => h) (And.intro (fun _ _ _ h _ => h) (And.intro (fun _ _ _ h _ => h) (And.intro (fun _ _ _ h _ => h) (And.intro (fun _ _ _ h _ => h) (And.intro (fun _ _ _ h g => by first | exact h | exact ownsRow_ext h g | exact Sl.ext h g) (And.intro (fun _ _ _ h _ => h) (And.intro (fun _ _ _ h _ => h) (And.intro (fun _ _ _ h _ => h) (trivial))))))))))) ?_ ?_
        · refine And.intro ?_ ?_
          · intro L_ wr6 hX_ hs_ hf_ hd_
            refine W.step [(4, _)] (Sub.cons (hs_ _ _ rfl) (Sub.refl _)) ?_
            refine W.move rfl rfl ?_
            refine W.nil ?_
            exact At.step (Ext.refl _) rfl
          refine And.intro ?_ ?_
          · intro L_ wr6 hX_ hs_ hf_ hd_
            refine W.step [(1, _)] (Sub.cons (hs_ _ _ rfl) (Sub.refl _)) ?_
            refine W.fieldB (off := 32) (size := 2) (t := 36) (Fld.of (by kernel_rfl)) rfl rfl rfl ?_
            refine W.nil ?_
            exact At.step (Ext.refl _) rfl
          refine And.intro ?_ ?_
          · intro L_ wr6 hX_ hs_ hf_ hd_
            obtain ⟨v1, e1, r1⟩ := hd_ 1 rfl
            obtain rfl : (.pointer (some ⟨g1, 32, none⟩) : Value) = v1 := Eq.symm r1
            refine W.step [(23, _)] (Sub.cons (e1 _ rfl) (Sub.refl _)) ?_
            refine W.fieldB (off := 1) (size := 1) (t := 27) (Fld.of (by kernel_rfl)) rfl rfl rfl ?_
            refine W.nil ?_
            exact At.step (Ext.refl _) rfl
          refine And.intro ?_ ?_
          · intro L_ wr6 hX_ hs_ hf_ hd_
            obtain ⟨v2, e2, r2⟩ := hd_ 2 rfl
            obtain rfl : (.pointer (some ⟨g1, 33, none⟩) : Value) = v2 := Eq.symm r2
            refine W.step [(24, _)] (Sub.cons (e2 _ rfl) (Sub.refl _)) ?_
            refine W.loadB (v := .slice ab s.box.length cb) rfl Try.underlying27 rfl (hBA.ext hX_) hg1 rfl ?_
            refine W.nil ?_
            exact At.step (Ext.refl _) rfl
          refine And.intro ?_ ?_
          · intro L_ wr6 hX_ hs_ hf_ hd_
            obtain ⟨v3, e3, r3⟩ := hd_ 3 rfl
            obtain rfl : (.slice ab s.box.length cb : Value) = v3 := Eq.symm r3
            refine W.step [(25, _)] (Sub.cons (e3 _ rfl) (Sub.refl _)) ?_
            refine W.lenS rfl Try.underlying27 rfl ?_
            refine W.nil ?_
            exact At.step (Ext.refl _) rfl
          refine And.intro ?_ ?_
          · intro L_ wr6 hX_ hs_ hf_ hd_
            obtain ⟨v4, e4, r4⟩ := hd_ 4 rfl
            obtain rfl : (.int .i64 (s.box.length : Int) : Value) = v4 := Eq.symm r4
            refine W.step [(26, _)] (Sub.cons (e4 _ rfl) (Sub.refl _)) ?_
            first | refine W.convIN (M := 18446744073709551616) rfl Try.underlying3 Try.underlying22 rfl rfl (by omega) rfl ?_ | refine W.convIU (M := 18446744073709551616) rfl Try.underlying3 Try.underlying22 rfl rfl rfl ?_
            refine W.eqv (v' := u64V s.box.length) (iV (by omega)) ?_
            refine W.nil ?_
            exact At.step (Ext.refl _) rfl
          refine And.intro ?_ ?_
          · intro L_ wr6 hX_ hs_ hf_ hd_
            obtain ⟨v0, e0, r0⟩ := hd_ 0 rfl
            obtain rfl : (.slice a21 (s.user ++ be64 s.x).length c21 : Value) = v0 := Eq.symm r0
            obtain ⟨v5, e5, r5⟩ := hd_ 5 rfl
            obtain rfl : (.int .u64 (s.box.length : Int) : Value) = v5 := Eq.symm r5
            refine W.step [(22, _), (27, _)] (Sub.cons (e0 _ rfl) (Sub.cons (e5 _ rfl) (Sub.refl _))) ?_
            refine W.call Try.call38 rfl (Words.RPut64_ok a21 c21 (s.user ++ be64 s.x) s.box.length _ (Sl.ext hS21 hX_) (by omega)) rfl ?_
            rintro v28 w28 ⟨hO28, hX28⟩
            refine W.nil ?_
            exact At.step hX28 (ownsRow_base hO28 (Chg.size hX_))
          refine And.intro ?_ ?_
          · intro L_ wr6 hX_ hs_ hf_ hd_
            refine W.step [(1, _)] (Sub.cons (hs_ _ _ rfl) (Sub.refl _)) ?_
            refine W.fieldB (off := 32) (size := 2) (t := 36) (Fld.of (by kernel_rfl)) rfl rfl rfl ?_
            refine W.nil ?_
            exact At.step (Ext.refl _) rfl
          refine And.intro ?_ ?_
          · intro L_ wr6 hX_ hs_ hf_ hd_
            obtain ⟨v7, e7, r7⟩ := hd_ 7 rfl
            obtain rfl : (.pointer (some ⟨g1, 32, none⟩) : Value) = v7 := Eq.symm r7
            refine W.step [(29, _)] (Sub.cons (e7 _ rfl) (Sub.refl _)) ?_
            refine W.fieldB (off := 1) (size := 1) (t := 27) (Fld.of (by kernel_rfl)) rfl rfl rfl ?_
            refine W.nil ?_
            exact At.step (Ext.refl _) rfl
          refine And.intro ?_ ?_
          · intro L_ wr6 hX_ hs_ hf_ hd_
            obtain ⟨v8, e8, r8⟩ := hd_ 8 rfl
            obtain rfl : (.pointer (some ⟨g1, 33, none⟩) : Value) = v8 := Eq.symm r8
            refine W.step [(30, _)] (Sub.cons (e8 _ rfl) (Sub.refl _)) ?_
            refine W.loadB (v := .slice ab s.box.length cb) rfl Try.underlying27 rfl (hBA.ext hX_) hg1 rfl ?_
            refine W.nil ?_
            exact At.step (Ext.refl _) rfl
          exact trivial
        · intro L_ wr6 hX6 hs_ hv_
          obtain ⟨v6, e6, r6⟩ := hv_ 6 (by decide)
          obtain ⟨v9, e9, r9⟩ := hv_ 9 (by decide)
          obtain rfl : (.slice ab s.box.length cb : Value) = v9 := Eq.symm r9
          refine W.weaken (l' := [(28, _), (31, _), (1, _), (4, _)]) (Sub.cons (e6 _ rfl) (Sub.cons (e9 _ rfl) (Sub.cons (hs_ _ _ rfl) (Sub.cons (hs_ _ _ rfl) (Sub.nil))))) ?_
          have hXr6 := hX6
          refine W.appendB (ys := s.box) E8 Try.underlying27 rfl rfl r6 (hsA.ext hXr6) (by simp only [List.length_append, be64_length]; omega) (Chg.size hXr6) rfl ?_
          intro v32 w32 hO32 hg32 _
          have hX32 : Ext w21 w32 := hXr6.news (Chg.of_grown hg32) (fun k hk => Or.inr (World.ownsRow.lt r6 k hk.symm).1)
          obtain ⟨a32, c32, rfl, hS32, _⟩ := ownsRow_form hO32
          obtain ⟨P, hP⟩ : ∃ P, P = s.user ++ be64 s.x ++ be64 s.box.length ++ s.box := ⟨_, rfl⟩
          have hPl : P.length ≤ 1048700 := by rw [hP]; simp only [List.length_append, be64_length]; omega
          have hEBP : subB s = P ++ be64 s.c1 ++ be64 s.s1 ++ be64 s.c2 ++ be64 s.s2 := by rw [hEB, hP]; simp only [List.append_assoc]
          rw [← hP] at hS32 ⊢
          have hXB := hXA.ext hX32
          have hBB := hBA.ext hX32
          refine W.assign rfl rfl ?_
          refine W.nil ?_
          refine At.thenCode ?_
          refine C.seq ?_
          refine C.regionAny 16 ((fun v w => v = .slice a32 P.length c32) :: (fun v w => v = .pointer (some ⟨g1, 34, none⟩)) :: (fun v w => v = .pointer (some ⟨g1, 34, none⟩)) :: (fun v w => v = .int .u64 (s.c1 : Int)) :: (fun v w => Rep w v (P ++ be64 s.c1)) :: (fun v w => v = .pointer (some ⟨g1, 34, none⟩)) :: (fun v w => v = .pointer (some ⟨g1, 35, none⟩)) :: (fun v w => v = .int .u64 (s.s1 : Int)) :: (fun v w => Rep w v (P ++ be64 s.c1 ++ be64 s.s1)) :: (fun v w => v = .pointer (some ⟨g1, 36, none⟩)) :: (fun v w => v = .pointer (some ⟨g1, 36, none⟩)) :: (fun v w => v = .int .u64 (s.c2 : Int)) :: (fun v w => Rep w v (P ++ be64 s.c1 ++ be64 s.s1 ++ be64 s.c2)) :: (fun v w => v = .pointer (some ⟨g1, 36, none⟩)) :: (fun v w => v = .pointer (some ⟨g1, 37, none⟩)) :: (fun v w => v = .int .u64 (s.s2 : Int)) :: []) [(1, .pointer (some ⟨g1, 0, none⟩)), (4, .slice a32 P.length c32)] [] (Sub.cons (rfl) (Sub.cons (rfl) (Sub.nil))) (Sub.nil) (Sub.cons (rfl) (Sub.cons (rfl) (Sub.nil))) (by kernel_rfl) rfl rfl rfl (And.intro (fun _ _ _ h _ => h) (And.intro (fun _ _ _ h _ => h) (And.intro (fun _ _ _ h _ => h) (And.intro (fun _ _ _ h _ => h) (And.intro (fun _ _ _ h g => Rep.stay h g) (And.intro (fun _ _ _ h _ => h) (And.intro (fun _ _ _ h _ => h) (And.intro (fun _ _ _ h _ => h) (And.intro (fun _ _ _ h g => Rep.stay h g) (And.intro (fun _ _ _ h _ => h) (And.intro (fun _ _ _ h _ => h) (And.intro (fun _ _ _ h _ => h) (And.intro (fun _ _ _ h g => Rep.stay h g) (And.intro (fun _ _ _ h _ => h) (And.intro (fun _ _ _ h _ => h) (And.intro (fun _ _ _ h _ => h) (trivial))))))))))))))))) ?_ ?_
          · refine And.intro ?_ ?_
            · intro L_ wr7 hX_ hs_ hf_ hd_
              refine W.step [(4, _)] (Sub.cons (hs_ _ _ rfl) (Sub.refl _)) ?_
              refine W.move rfl rfl ?_
              refine W.nil ?_
              exact At.step (Ext.refl _) rfl
            refine And.intro ?_ ?_
            · intro L_ wr7 hX_ hs_ hf_ hd_
              refine W.step [(1, _)] (Sub.cons (hs_ _ _ rfl) (Sub.refl _)) ?_
              refine W.fieldB (off := 34) (size := 2) (t := 38) (Fld.of (by kernel_rfl)) rfl rfl rfl ?_
              refine W.nil ?_
              exact At.step (Ext.refl _) rfl
            refine And.intro ?_ ?_
            · intro L_ wr7 hX_ hs_ hf_ hd_
              obtain ⟨v1, e1, r1⟩ := hd_ 1 rfl
              obtain rfl : (.pointer (some ⟨g1, 34, none⟩) : Value) = v1 := Eq.symm r1
              refine W.step [(34, _)] (Sub.cons (e1 _ rfl) (Sub.refl _)) ?_
              refine W.fieldB (off := 0) (size := 1) (t := 22) (Fld.of (by kernel_rfl)) rfl rfl rfl ?_
              refine W.nil ?_
              exact At.step (Ext.refl _) rfl
            refine And.intro ?_ ?_
            · intro L_ wr7 hX_ hs_ hf_ hd_
              obtain ⟨v2, e2, r2⟩ := hd_ 2 rfl
              obtain rfl : (.pointer (some ⟨g1, 34, none⟩) : Value) = v2 := Eq.symm r2
              refine W.step [(35, _)] (Sub.cons (e2 _ rfl) (Sub.refl _)) ?_
              refine W.loadB (v := u64V s.c1) rfl Try.underlying22 rfl (hBB.ext hX_) hg2 rfl ?_
              refine W.nil ?_
              exact At.step (Ext.refl _) rfl
            refine And.intro ?_ ?_
            · intro L_ wr7 hX_ hs_ hf_ hd_
              obtain ⟨v0, e0, r0⟩ := hd_ 0 rfl
              obtain rfl : (.slice a32 P.length c32 : Value) = v0 := Eq.symm r0
              obtain ⟨v3, e3, r3⟩ := hd_ 3 rfl
              obtain rfl : (.int .u64 (s.c1 : Int) : Value) = v3 := Eq.symm r3
              refine W.step [(33, _), (36, _)] (Sub.cons (e0 _ rfl) (Sub.cons (e3 _ rfl) (Sub.refl _))) ?_
              refine W.call Try.call38 rfl (Words.RPut64_ok a32 c32 P s.c1 _ (Sl.ext hS32 hX_) (by omega)) rfl ?_
              rintro v37 w37 ⟨hO37, hX37⟩
              refine W.nil ?_
              exact At.step hX37 (Ow.rep hO37)
            refine And.intro ?_ ?_
            · intro L_ wr7 hX_ hs_ hf_ hd_
              refine W.step [(1, _)] (Sub.cons (hs_ _ _ rfl) (Sub.refl _)) ?_
              refine W.fieldB (off := 34) (size := 2) (t := 38) (Fld.of (by kernel_rfl)) rfl rfl rfl ?_
              refine W.nil ?_
              exact At.step (Ext.refl _) rfl
            refine And.intro ?_ ?_
            · intro L_ wr7 hX_ hs_ hf_ hd_
              obtain ⟨v5, e5, r5⟩ := hd_ 5 rfl
              obtain rfl : (.pointer (some ⟨g1, 34, none⟩) : Value) = v5 := Eq.symm r5
              refine W.step [(38, _)] (Sub.cons (e5 _ rfl) (Sub.refl _)) ?_
              refine W.fieldB (off := 1) (size := 1) (t := 22) (Fld.of (by kernel_rfl)) rfl rfl rfl ?_
              refine W.nil ?_
              exact At.step (Ext.refl _) rfl
            refine And.intro ?_ ?_
            · intro L_ wr7 hX_ hs_ hf_ hd_
              obtain ⟨v6, e6, r6⟩ := hd_ 6 rfl
              obtain rfl : (.pointer (some ⟨g1, 35, none⟩) : Value) = v6 := Eq.symm r6
              refine W.step [(39, _)] (Sub.cons (e6 _ rfl) (Sub.refl _)) ?_
              refine W.loadB (v := u64V s.s1) rfl Try.underlying22 rfl (hBB.ext hX_) hg3 rfl ?_
              refine W.nil ?_
              exact At.step (Ext.refl _) rfl
            refine And.intro ?_ ?_
            · intro L_ wr7 hX_ hs_ hf_ hd_
              obtain ⟨v4, e4, r4⟩ := hd_ 4 rfl
              obtain ⟨a4, c4, rfl, hb4⟩ := r4
              obtain ⟨v7, e7, r7⟩ := hd_ 7 rfl
              obtain rfl : (.int .u64 (s.s1 : Int) : Value) = v7 := Eq.symm r7
              refine W.step [(37, _), (40, _)] (Sub.cons (e4 _ rfl) (Sub.cons (e7 _ rfl) (Sub.refl _))) ?_
              refine W.call Try.call38 rfl (Words.RPut64_ok a4 c4 _ s.s1 _ hb4 (by simp only [List.length_append, be64_length]; omega)) rfl ?_
              rintro v41 w41 ⟨hO41, hX41⟩
              refine W.nil ?_
              exact At.step hX41 (Ow.rep hO41)
            refine And.intro ?_ ?_
            · intro L_ wr7 hX_ hs_ hf_ hd_
              refine W.step [(1, _)] (Sub.cons (hs_ _ _ rfl) (Sub.refl _)) ?_
              refine W.fieldB (off := 36) (size := 2) (t := 38) (Fld.of (by kernel_rfl)) rfl rfl rfl ?_
              refine W.nil ?_
              exact At.step (Ext.refl _) rfl
            refine And.intro ?_ ?_
            · intro L_ wr7 hX_ hs_ hf_ hd_
              obtain ⟨v9, e9, r9⟩ := hd_ 9 rfl
              obtain rfl : (.pointer (some ⟨g1, 36, none⟩) : Value) = v9 := Eq.symm r9
              refine W.step [(42, _)] (Sub.cons (e9 _ rfl) (Sub.refl _)) ?_
              refine W.fieldB (off := 0) (size := 1) (t := 22) (Fld.of (by kernel_rfl)) rfl rfl rfl ?_
              refine W.nil ?_
              exact At.step (Ext.refl _) rfl
            refine And.intro ?_ ?_
            · intro L_ wr7 hX_ hs_ hf_ hd_
              obtain ⟨v10, e10, r10⟩ := hd_ 10 rfl
              obtain rfl : (.pointer (some ⟨g1, 36, none⟩) : Value) = v10 := Eq.symm r10
              refine W.step [(43, _)] (Sub.cons (e10 _ rfl) (Sub.refl _)) ?_
              refine W.loadB (v := u64V s.c2) rfl Try.underlying22 rfl (hBB.ext hX_) hg4 rfl ?_
              refine W.nil ?_
              exact At.step (Ext.refl _) rfl
            refine And.intro ?_ ?_
            · intro L_ wr7 hX_ hs_ hf_ hd_
              obtain ⟨v8, e8, r8⟩ := hd_ 8 rfl
              obtain ⟨a8, c8, rfl, hb8⟩ := r8
              obtain ⟨v11, e11, r11⟩ := hd_ 11 rfl
              obtain rfl : (.int .u64 (s.c2 : Int) : Value) = v11 := Eq.symm r11
              refine W.step [(41, _), (44, _)] (Sub.cons (e8 _ rfl) (Sub.cons (e11 _ rfl) (Sub.refl _))) ?_
              refine W.call Try.call38 rfl (Words.RPut64_ok a8 c8 _ s.c2 _ hb8 (by simp only [List.length_append, be64_length]; omega)) rfl ?_
              rintro v45 w45 ⟨hO45, hX45⟩
              refine W.nil ?_
              exact At.step hX45 (Ow.rep hO45)
            refine And.intro ?_ ?_
            · intro L_ wr7 hX_ hs_ hf_ hd_
              refine W.step [(1, _)] (Sub.cons (hs_ _ _ rfl) (Sub.refl _)) ?_
              refine W.fieldB (off := 36) (size := 2) (t := 38) (Fld.of (by kernel_rfl)) rfl rfl rfl ?_
              refine W.nil ?_
              exact At.step (Ext.refl _) rfl
            refine And.intro ?_ ?_
            · intro L_ wr7 hX_ hs_ hf_ hd_
              obtain ⟨v13, e13, r13⟩ := hd_ 13 rfl
              obtain rfl : (.pointer (some ⟨g1, 36, none⟩) : Value) = v13 := Eq.symm r13
              refine W.step [(46, _)] (Sub.cons (e13 _ rfl) (Sub.refl _)) ?_
              refine W.fieldB (off := 1) (size := 1) (t := 22) (Fld.of (by kernel_rfl)) rfl rfl rfl ?_
              refine W.nil ?_
              exact At.step (Ext.refl _) rfl
            refine And.intro ?_ ?_
            · intro L_ wr7 hX_ hs_ hf_ hd_
              obtain ⟨v14, e14, r14⟩ := hd_ 14 rfl
              obtain rfl : (.pointer (some ⟨g1, 37, none⟩) : Value) = v14 := Eq.symm r14
              refine W.step [(47, _)] (Sub.cons (e14 _ rfl) (Sub.refl _)) ?_
              refine W.loadB (v := u64V s.s2) rfl Try.underlying22 rfl (hBB.ext hX_) hg5 rfl ?_
              refine W.nil ?_
              exact At.step (Ext.refl _) rfl
            exact trivial
          · intro L_ wr7 hX7 hs_ hv_
            obtain ⟨v12, e12, r12⟩ := hv_ 12 (by decide)
            obtain ⟨a12, c12, rfl, hb12⟩ := r12
            obtain ⟨v15, e15, r15⟩ := hv_ 15 (by decide)
            obtain rfl : (.int .u64 (s.s2 : Int) : Value) = v15 := Eq.symm r15
            refine W.weaken (l' := [(45, _), (48, _), (1, _), (4, _)]) (Sub.cons (e12 _ rfl) (Sub.cons (e15 _ rfl) (Sub.cons (hs_ _ _ rfl) (Sub.cons (hs_ _ _ rfl) (Sub.nil))))) ?_
            have hXr7 := hX7
            refine W.call Try.call38 rfl (Words.RPut64_ok a12 c12 _ s.s2 _ hb12 (by simp only [List.length_append, be64_length]; omega)) rfl ?_
            rintro v49 w49 ⟨hO49, hX49⟩
            obtain ⟨aR, cR, rfl, hSR, hbR⟩ := ownsRow_form hO49
            rw [← hEBP] at hSR ⊢
            have hXR := (hXB.ext hXr7).ext hX49
            have hNR : NewB w w49 aR cR (subB s) := ⟨hSR, fun ad ea _ => by have := hbR ad ea; have := (hXB.ext hXr7).size; omega⟩
            refine W.assign rfl rfl ?_
            refine W.assign rfl rfl ?_
            refine W.nil ?_
            refine At.thenCode ?_
            refine C.ret ?_
            refine At.ret2 Try.results16 rfl rfl ?_
            exact ⟨aR, cR, by rw [hEE]; rfl, hNR, hXR⟩
end Go.Proofs.Ytpjdkobmcjgcjaa.Cod
