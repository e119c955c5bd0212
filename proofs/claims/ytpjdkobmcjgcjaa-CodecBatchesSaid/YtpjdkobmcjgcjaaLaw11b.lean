/- The walk of chapter 11's law that bytes that are read are written as they were. -/
import Derived.Test.YtpjdkobmcjgcjaaLaw11
namespace Go.Proofs.Ytpjdkobmcjgcjaa.Law11
open Go Go.RowKit Go.Proofs.Ytpjdkobmcjgcjaa.KW Go.Proofs.Ytpjdkobmcjgcjaa.Words Go.Proofs.Ytpjdkobmcjgcjaa.Grp Go.Proofs.Ytpjdkobmcjgcjaa.Cod
set_option linter.unusedVariables false
set_option linter.unusedSimpArgs false
set_option maxRecDepth 100000
theorem ents_small {l : List Ent} (h : entsE l = 0) : l.length ≤ 1000 ∧ ∀ p ∈ l, p.2.length ≤ 1048576 := by
  unfold entsE at h
  by_cases h1 : 1000 < l.length ∨ longE l
  · rw [if_pos h1] at h; exact absurd h (by decide)
  · refine ⟨by have := fun c => h1 (Or.inl c); omega, fun p hp => ?_⟩
    have : ¬ 1048576 < p.2.length := fun c => h1 (Or.inr ⟨p, hp, c⟩)
    omega
theorem sub_small {s : SubD} (h : subE s = 0) : s.box.length ≤ 1048576 := by
  unfold subE at h
  by_cases h1 : 1048576 < s.box.length
  · rw [if_pos h1] at h; exact absurd h (by decide)
  · omega
theorem bat_small {x : BatD} (h : batE x = 0) : x.inner.length ≤ 20 ∧ x.lets.length ≤ 1000 ∧ ∀ p ∈ x.lets, p.2.length ≤ 1048576 := by
  unfold batE at h
  by_cases h1 : 20 < x.inner.length ∨ 1000 < x.lets.length ∨ longL x.lets
  · rw [if_pos h1] at h; exact absurd h (by decide)
  · refine ⟨by have := fun c => h1 (Or.inl c); omega, by have := fun c => h1 (Or.inr (Or.inl c)); omega, fun p hp => ?_⟩
    have : ¬ 1048576 < p.2.length := fun c => h1 (Or.inr (Or.inr ⟨p, hp, c⟩))
    omega
theorem subC_length {s : SubD} (h : SubOk s) (v : Value) : (subC s v).length = 38 := by unfold subC; simp [h.1]
theorem subC_one (s : SubD) {v : Value} (h : v.oneCell' = true) : ∀ u ∈ subC s v, u.oneCell' = true := by
  intro u hu
  rcases List.mem_append.1 hu with h1 | h1
  · exact bytes_oneCell _ u h1
  · simp only [List.mem_cons, List.not_mem_nil, or_false] at h1
    rcases h1 with rfl | rfl | rfl | rfl | rfl | rfl
    · rfl
    · exact h
    all_goals rfl
theorem byt_one {A : Nat → Prop} {w : World} {v : Value} {xs : List UInt8} (h : RByt A w [v] xs) : v.oneCell' = true := rByt.one h v (by simp)
theorem batC_one (x : BatD) {vi vl : Value} (h : vi.oneCell' = true) (g : vl.oneCell' = true) : ∀ u ∈ batC x vi vl, u.oneCell' = true := by
  intro u hu
  unfold batC at hu
  simp only [List.mem_cons, List.not_mem_nil, or_false] at hu
  rcases hu with rfl | rfl | rfl | rfl
  · rfl
  · rfl
  · exact h
  · exact g
def zeroBatC : List Value := [.int .i64 0, .int .i64 0, .slice none 0 0, .slice none 0 0]
theorem CodecAgain_walk (ao : Option Addr) (c : Nat) (b : List UInt8) (w : World) (hb : Bs w ao c b) (hl : b.length ≤ 9223372036854775807) :
    Ct Try.prog 9 #[.slice ao b.length c] w (LawOk w) := by
  refine Ct.enter [(0, .slice ao b.length c)] Try.func9 rfl rfl rfl rfl ?_
  refine C.seq ?_
  refine C.region ?_
  refine W.assign rfl rfl ?_
  refine W.nil ?_
  refine At.thenCode ?_
  refine C.seq ?_
  refine C.region ?_
  refine W.call Try.call10 rfl (Law11.alive_ok _) rfl ?_
  rintro v18 w18 ⟨rfl, hX18⟩
  have hb18 := hb.ext hX18
  refine W.assign rfl rfl ?_
  refine W.nil ?_
  refine At.thenCode ?_
  refine C.seq ?_
  refine C.seq ?_
  refine C.region ?_
  refine W.move rfl rfl ?_
  first | refine W.notD rfl rfl ?_ | refine W.notB rfl rfl ?_
  refine W.move rfl rfl ?_
  refine W.wants rfl rfl rfl rfl ?_
  refine W.move rfl rfl ?_
  refine W.wants rfl rfl rfl rfl ?_
  refine W.lenS rfl Try.underlying27 rfl ?_
  refine W.wants rfl rfl rfl rfl ?_
  refine W.gtrI rfl rfl rfl ?_
  refine W.pickF rfl rfl rfl ?_
  refine W.nil ?_
  refine At.thenCode ?_
  first | refine C.condD rfl (fun c25 => ?_) (fun c25 => ?_) | refine C.cond rfl (fun c25 => ?_) (fun c25 => ?_)
  · refine C.seq ?_
    refine C.region ?_
    refine W.move rfl rfl ?_
    refine W.assign rfl rfl ?_
    refine W.nil ?_
    refine At.thenCode ?_
    refine C.ret ?_
    refine At.thenRet ?_
    refine At.ret1 Try.results9 rfl ?_
    first
    | exact ⟨rfl, Ext.below (hX99a.ext hX20)⟩
    | exact ⟨rfl, Ext.below hX18⟩
  · -- known too
    have hlen : b.length ≤ 1099511627776 := by omega
    refine C.skip ?_
    refine At.thenCode ?_
    refine C.seq ?_
    refine C.region ?_
    refine W.move rfl rfl ?_
    refine W.call Try.call19 rfl (Cod.ReadEntries_ok _ _ _ _ (by assumption) (by assumption)) rfl ?_
    rintro v29 w29 ⟨ao29, c29, rfl, hE29, hX29⟩
    have hb29 := hb18.ext hX29
    have hX29a := hX18.ext hX29
    obtain ⟨er, her⟩ : ∃ er, er = entsR b := ⟨_, rfl⟩
    have hag := ents_again b
    rw [← her] at hE29 hag ⊢
    refine W.move rfl rfl ?_
    refine W.extract rfl rfl rfl ?_
    refine W.extract rfl rfl rfl ?_
    refine W.assign rfl rfl ?_
    refine W.assign rfl rfl ?_
    refine W.nil ?_
    refine At.thenCode ?_
    refine C.seq ?_
    refine C.seq ?_
    refine C.region ?_
    refine W.move rfl rfl ?_
    refine W.call Try.call14 rfl (Law11.num_ok _ _) rfl ?_
    rintro v33 w33 ⟨rfl, rfl⟩
    refine W.eqlI rfl rfl rfl ?_
    refine W.nil ?_
    refine At.thenCode ?_
    first | refine C.condD rfl (fun c34 => ?_) (fun c34 => ?_) | refine C.cond rfl (fun c34 => ?_) (fun c34 => ?_)
    · have h0 : entsRE b = 0 := by omega
      obtain ⟨k1, k2⟩ := hag h0
      obtain ⟨k3, k4⟩ := ents_small k1
      refine C.seq ?_
      refine C.region ?_
      refine W.move rfl rfl ?_
      refine W.call Try.call28 rfl (Cod.Entries_ok _ _ er _ (hE29.new rEnt (fun k h _ => h.elim)) (by omega) (fun p hp => by have := k4 p hp; omega)) rfl ?_
      rintro v37 w37 ⟨ao37, c37, rfl, hN37, hX37⟩
      rw [k1, k2] at *
      refine W.move rfl rfl ?_
      refine W.extract rfl rfl rfl ?_
      refine W.extract rfl rfl rfl ?_
      refine W.assign rfl rfl ?_
      refine W.assign rfl rfl ?_
      refine W.nil ?_
      refine At.thenCode ?_
      refine C.seq ?_
      refine C.region ?_
      refine W.move rfl rfl ?_
      refine W.call Try.call14 rfl (Law11.num_ok _ _) rfl ?_
      rintro v41 w41 ⟨rfl, rfl⟩
      refine W.neqI rfl rfl rfl ?_
      refine W.eqv (bF (fun h => h rfl)) ?_
      refine W.move rfl rfl ?_
      refine W.wants rfl rfl rfl rfl ?_
      refine W.move rfl rfl ?_
      refine W.wants rfl rfl rfl rfl ?_
      refine W.bytesStr Try.underlying27 Try.underlying5 Try.underlying9 rfl hN37.1 rfl ?_
      refine W.wants rfl rfl rfl rfl ?_
      refine W.move rfl rfl ?_
      refine W.wants rfl rfl rfl rfl ?_
      refine W.bytesStr Try.underlying27 Try.underlying5 Try.underlying9 rfl (hb29.ext hX37) rfl ?_
      refine W.wants rfl rfl rfl rfl ?_
      refine W.neqStr rfl rfl rfl ?_
      refine W.eqv (bF (fun h => h rfl)) ?_
      refine W.pickF rfl rfl rfl ?_
      refine W.nil ?_
      refine At.thenCode ?_
      refine C.condF rfl ?_
      -- known too
      have hbA := hb29.ext hX37
      have hXA := hX29a.ext hX37
      refine C.skip ?_
      refine At.thenCode ?_
      refine C.seq ?_
      refine C.region ?_
      refine W.move rfl rfl ?_
      refine W.call Try.call17 rfl (Cod.ReadSubmission_ok ao c b _ hbA hlen) rfl ?_
      rintro v52 w52 ⟨vb52, rfl, hY52, hX52⟩
      obtain ⟨sr, hsr⟩ : ∃ sr, sr = subR b := ⟨_, rfl⟩
      have hsg := sub_again b
      have hso := subR_ok b
      rw [← hsr] at hY52 hsg hso ⊢
      have hv52 := byt_one hY52
      have hcl := subC_length hso vb52
      refine W.move rfl rfl ?_
      refine W.extract rfl rfl rfl ?_
      refine W.extract rfl rfl rfl ?_
      refine W.alloc (z := .agg zeroSubC.toArray) zeroSubC (by kernel_rfl) rfl rfl ?_
      intro g8 w8 hg8 hX8 hB8
      refine W.storeA (subC sr vb52) rfl rfl hB8 (by rw [hcl]; rfl) (by rw [hcl]; kernel_rfl) (subC_one _ hv52) ?_
      intro w53 hc53 hB53
      have hX53 : Ext w52 w53 := hX8.news hc53 fun k hk => Or.inr (by omega)
      have hY53 := RdOk.ext rByt hY52 hX53
      have hb53 := (hbA.ext hX52).ext hX53
      have hX53a := (hXA.ext hX52).ext hX53
      refine W.assign rfl rfl ?_
      refine W.nil ?_
      refine At.thenCode ?_
      refine C.seq ?_
      refine C.seq ?_
      refine C.region ?_
      refine W.move rfl rfl ?_
      refine W.call Try.call14 rfl (Law11.num_ok _ _) rfl ?_
      rintro v56 w56 ⟨rfl, rfl⟩
      refine W.eqlI rfl rfl rfl ?_
      refine W.nil ?_
      refine At.thenCode ?_
      first | refine C.condD rfl (fun c57 => ?_) (fun c57 => ?_) | refine C.cond rfl (fun c57 => ?_) (fun c57 => ?_)
      · have h1 : subRE b = 0 := by omega
        obtain ⟨m1, m2⟩ := hsg h1
        have m3 := sub_small m1
        refine C.seq ?_
        refine C.region ?_
        refine W.loadA rfl (hB53.cells (o := 0)) Try.underlying40 rfl (by rw [List.drop_zero, hcl]; kernel_rfl) rfl ?_
        rw [List.drop_zero]
        have hYF : RByt (fun _ => False) w53 [vb52] sr.box := rByt.new hY53 fun k h _ => h.elim
        refine W.call Try.call15 rfl (Cod.Submission_ok sr vb52 _ ⟨vb52, rfl, hYF, hso⟩ hYF hso (by omega)) rfl ?_
        rintro v60 w60 ⟨ao60, c60, rfl, hN60, hX60⟩
        rw [m1, m2] at *
        refine W.move rfl rfl ?_
        refine W.extract rfl rfl rfl ?_
        refine W.extract rfl rfl rfl ?_
        refine W.assign rfl rfl ?_
        refine W.assign rfl rfl ?_
        refine W.nil ?_
        refine At.thenCode ?_
        refine C.seq ?_
        refine C.region ?_
        refine W.move rfl rfl ?_
        refine W.call Try.call14 rfl (Law11.num_ok _ _) rfl ?_
        rintro v64 w64 ⟨rfl, rfl⟩
        refine W.neqI rfl rfl rfl ?_
        refine W.eqv (bF (fun h => h rfl)) ?_
        refine W.move rfl rfl ?_
        refine W.wants rfl rfl rfl rfl ?_
        refine W.move rfl rfl ?_
        refine W.wants rfl rfl rfl rfl ?_
        refine W.bytesStr Try.underlying27 Try.underlying5 Try.underlying9 rfl hN60.1 rfl ?_
        refine W.wants rfl rfl rfl rfl ?_
        refine W.move rfl rfl ?_
        refine W.wants rfl rfl rfl rfl ?_
        refine W.bytesStr Try.underlying27 Try.underlying5 Try.underlying9 rfl (hb53.ext hX60) rfl ?_
        refine W.wants rfl rfl rfl rfl ?_
        refine W.neqStr rfl rfl rfl ?_
        refine W.eqv (bF (fun h => h rfl)) ?_
        refine W.pickF rfl rfl rfl ?_
        refine W.nil ?_
        refine At.thenCode ?_
        refine C.condF rfl ?_
        -- known too
        have hbB := hb53.ext hX60
        have hXB := hX53a.ext hX60
        refine C.skip ?_
        refine At.thenCode ?_
        refine C.seq ?_
        refine C.region ?_
        refine W.move rfl rfl ?_
        refine W.call Try.call23 rfl (Cod.ReadBatch_ok ao c b _ hbB hlen) rfl ?_
        rintro v75 w75 ⟨vi75, vl75, rfl, hI75, hL75, hX75⟩
        obtain ⟨xr, hxr⟩ : ∃ xr, xr = batR b := ⟨_, rfl⟩
        have hxg := bat_again b
        have hxo := batR_ok b
        rw [← hxr] at hI75 hL75 hxg hxo ⊢
        have hvi := rNums.one hI75 vi75 (by simp)
        have hvl := (rSl 33 rLet).one hL75 vl75 (by simp)
        refine W.move rfl rfl ?_
        refine W.extract rfl rfl rfl ?_
        refine W.extract rfl rfl rfl ?_
        refine W.alloc (z := .agg zeroBatC.toArray) zeroBatC (by kernel_rfl) rfl rfl ?_
        intro g12 w12 hg12 hX12 hB12
        refine W.storeA (batC xr vi75 vl75) rfl rfl hB12 rfl (by kernel_rfl) (batC_one _ hvi hvl) ?_
        intro w76 hc76 hB76
        have hX76 : Ext w75 w76 := hX12.news hc76 fun k hk => Or.inr (by omega)
        have hI76 : RNums (fun _ => False) w76 [vi75] xr.inner := rNums.new (RdOk.ext rNums hI75 hX76) fun k h _ => h.elim
        have hL76 : RSl 33 RLet (fun _ => False) w76 [vl75] xr.lets := (rSl 33 rLet).new (RdOk.ext (rSl 33 rLet) hL75 hX76) fun k h _ => h.elim
        have hb76 := (hbB.ext hX75).ext hX76
        have hX76a := (hXB.ext hX75).ext hX76
        refine W.assign rfl rfl ?_
        refine W.nil ?_
        refine At.thenCode ?_
        refine C.seq ?_
        refine C.seq ?_
        refine C.region ?_
        refine W.move rfl rfl ?_
        refine W.call Try.call14 rfl (Law11.num_ok _ _) rfl ?_
        rintro v79 w79 ⟨rfl, rfl⟩
        refine W.eqlI rfl rfl rfl ?_
        refine W.nil ?_
        refine At.thenCode ?_
        first | refine C.condD rfl (fun c80 => ?_) (fun c80 => ?_) | refine C.cond rfl (fun c80 => ?_) (fun c80 => ?_)
        · have h2 : batRE b = 0 := by omega
          obtain ⟨n1, n2⟩ := hxg h2
          obtain ⟨n3, n4, n5⟩ := bat_small n1
          refine C.seq ?_
          refine C.region ?_
          refine W.loadA rfl (hB76.cells (o := 0)) Try.underlying60 rfl (by kernel_rfl) rfl ?_
          rw [List.drop_zero]
          refine W.call Try.call31 rfl (Cod.Batch_ok xr vi75 vl75 _ hI76 hL76 hxo (by omega) (by omega) (fun p hp => by have := n5 p hp; omega)) rfl ?_
          rintro v83 w83 ⟨ao83, c83, rfl, hN83, hX83⟩
          rw [n1, n2] at *
          refine W.move rfl rfl ?_
          refine W.extract rfl rfl rfl ?_
          refine W.extract rfl rfl rfl ?_
          refine W.assign rfl rfl ?_
          refine W.assign rfl rfl ?_
          refine W.nil ?_
          refine At.thenCode ?_
          refine C.seq ?_
          refine C.region ?_
          refine W.move rfl rfl ?_
          refine W.call Try.call14 rfl (Law11.num_ok _ _) rfl ?_
          rintro v87 w87 ⟨rfl, rfl⟩
          refine W.neqI rfl rfl rfl ?_
          refine W.eqv (bF (fun h => h rfl)) ?_
          refine W.move rfl rfl ?_
          refine W.wants rfl rfl rfl rfl ?_
          refine W.move rfl rfl ?_
          refine W.wants rfl rfl rfl rfl ?_
          refine W.bytesStr Try.underlying27 Try.underlying5 Try.underlying9 rfl hN83.1 rfl ?_
          refine W.wants rfl rfl rfl rfl ?_
          refine W.move rfl rfl ?_
          refine W.wants rfl rfl rfl rfl ?_
          refine W.bytesStr Try.underlying27 Try.underlying5 Try.underlying9 rfl (hb76.ext hX83) rfl ?_
          refine W.wants rfl rfl rfl rfl ?_
          refine W.neqStr rfl rfl rfl ?_
          refine W.eqv (bF (fun h => h rfl)) ?_
          refine W.pickF rfl rfl rfl ?_
          refine W.nil ?_
          refine At.thenCode ?_
          refine C.condF rfl ?_
          -- known too
          have hbC := hb76.ext hX83
          have hXC := hX76a.ext hX83
          refine C.skip ?_
          refine At.thenCode ?_
          refine C.seq ?_
          refine C.region ?_
          refine W.move rfl rfl ?_
          refine W.call Try.call12 rfl (Cod.ReadNote_ok ao c b _ hbC hlen) rfl ?_
          rintro v98 w98 ⟨rfl, hX98⟩
          obtain ⟨nr, hnr⟩ : ∃ nr, nr = noteR b := ⟨_, rfl⟩
          have hng := note_again b
          have hno := noteR_ok b
          rw [← hnr] at hng hno ⊢
          have hnl := noteC_length hno
          refine W.move rfl rfl ?_
          refine W.extract rfl rfl rfl ?_
          refine W.extract rfl rfl rfl ?_
          refine W.alloc (z := .agg zeroNoteC.toArray) zeroNoteC (by kernel_rfl) rfl rfl ?_
          intro g16 w16 hg16 hX16 hB16
          refine W.storeA (noteC nr) rfl rfl hB16 (by rw [hnl]; rfl) (by rw [hnl]; kernel_rfl) (noteC_one _) ?_
          intro w99 hc99 hB99
          have hX99 : Ext w98 w99 := hX16.news hc99 fun k hk => Or.inr (by omega)
          have hb99 := (hbC.ext hX98).ext hX99
          have hX99a := (hXC.ext hX98).ext hX99
          refine W.assign rfl rfl ?_
          refine W.nil ?_
          refine At.thenCode ?_
          refine C.seq ?_
          by_cases hz : noteRE b = 0
          · refine C.regionAny 12 ((fun v w => v = .int .i64 (noteRE b : Int)) :: (fun v w => v = .int .i64 (noteRE b : Int)) :: (fun v w => v = .bool false) :: (fun v w => v = .bool false) :: (fun v w => v = .agg (noteC nr).toArray) :: (fun v w => Rep w v b) :: (fun v w => v = strV b) :: (fun v w => v = .slice ao b.length c) :: (fun v w => v = strV b) :: (fun v w => v = .bool true) :: (fun v w => v = .bool true) :: (fun v w => v = .bool true) :: []) [(0, .slice ao b.length c), (16, .pointer (some ⟨g16, 0, none⟩)), (17, .int .i64 (noteRE b : Int))] [] (Sub.cons (rfl) (Sub.cons (rfl) (Sub.cons (rfl) (Sub.nil)))) (Sub.nil) (Sub.cons (rfl) (Sub.cons (rfl) (Sub.cons (rfl) (Sub.nil)))) (by kernel_rfl) rfl rfl rfl (And.intro (fun _ _ _ h _ => h) (And.intro (fun _ _ _ h _ => h) (And.intro (fun _ _ _ h _ => h) (And.intro (fun _ _ _ h _ => h) (And.intro (fun _ _ _ h _ => h) (And.intro (fun _ _ _ h g => h.ext g) (And.intro (fun _ _ _ h _ => h) (And.intro (fun _ _ _ h _ => h) (And.intro (fun _ _ _ h _ => h) (And.intro (fun _ _ _ h _ => h) (And.intro (fun _ _ _ h _ => h) (And.intro (fun _ _ _ h _ => h) (trivial))))))))))))) ?_ ?_
            · refine And.intro ?_ ?_
              · intro L_ wr hX_ hs_ hf_ hd_
                refine W.step [(17, _)] (Sub.cons (hs_ _ _ rfl) (Sub.refl _)) ?_
                refine W.move rfl rfl ?_
                refine W.nil ?_
                exact At.step (Ext.refl _) rfl
              refine And.intro ?_ ?_
              · intro L_ wr hX_ hs_ hf_ hd_
                obtain ⟨v0, e0, r0⟩ := hd_ 0 rfl
                obtain rfl : (.int .i64 (noteRE b : Int) : Value) = v0 := Eq.symm r0
                refine W.step [(101, _)] (Sub.cons (e0 _ rfl) (Sub.refl _)) ?_
                refine W.call Try.call14 rfl (Law11.num_ok _ _) rfl ?_
                rintro v102 w102 ⟨rfl, rfl⟩
                refine W.nil ?_
                exact At.step (Ext.refl _) rfl
              refine And.intro ?_ ?_
              · intro L_ wr hX_ hs_ hf_ hd_
                obtain ⟨v1, e1, r1⟩ := hd_ 1 rfl
                obtain rfl : (.int .i64 (noteRE b : Int) : Value) = v1 := Eq.symm r1
                refine W.step [(102, _)] (Sub.cons (e1 _ rfl) (Sub.refl _)) ?_
                refine W.neqI rfl rfl rfl ?_
                refine W.eqv (bF (by omega)) ?_
                refine W.nil ?_
                exact At.step (Ext.refl _) rfl
              refine And.intro ?_ ?_
              · intro L_ wr hX_ hs_ hf_ hd_
                obtain ⟨v2, e2, r2⟩ := hd_ 2 rfl
                obtain rfl : (.bool false : Value) = v2 := Eq.symm r2
                refine W.step [(103, _)] (Sub.cons (e2 _ rfl) (Sub.refl _)) ?_
                refine W.move rfl rfl ?_
                refine W.nil ?_
                exact At.step (Ext.refl _) rfl
              refine And.intro ?_ ?_
              · intro L_ wr hX_ hs_ hf_ hd_
                obtain ⟨v3, e3, r3⟩ := hd_ 3 rfl
                obtain rfl : (.bool false : Value) = v3 := Eq.symm r3
                refine W.step [(16, _), (104, _)] (Sub.cons (hs_ _ _ rfl) (Sub.cons (e3 _ rfl) (Sub.refl _))) ?_
                refine W.wants rfl rfl rfl rfl ?_
                refine W.loadA rfl ((hB99.ext hX_).cells (o := 0)) Try.underlying25 rfl (by rw [List.drop_zero, hnl]; kernel_rfl) rfl ?_
                rw [List.drop_zero]
                refine W.nil ?_
                exact At.step (Ext.refl _) rfl
              refine And.intro ?_ ?_
              · intro L_ wr hX_ hs_ hf_ hd_
                obtain ⟨v4, e4, r4⟩ := hd_ 4 rfl
                obtain rfl : (.agg (noteC nr).toArray : Value) = v4 := Eq.symm r4
                obtain ⟨v3, e3, r3⟩ := hd_ 3 rfl
                obtain rfl : (.bool false : Value) = v3 := Eq.symm r3
                refine W.step [(105, _), (104, _)] (Sub.cons (e4 _ rfl) (Sub.cons (e3 _ rfl) (Sub.refl _))) ?_
                refine W.wants rfl rfl rfl rfl ?_
                refine W.call Try.call11 rfl (Cod.Note_ok nr _ hno) rfl ?_
                rintro v106 w106 ⟨ao106, c106, rfl, hN106, hX106⟩
                refine W.nil ?_
                exact At.step hX106 (by have := hng hz; rw [this] at hN106; exact ⟨ao106, c106, by rw [this], hN106.1⟩)
              refine And.intro ?_ ?_
              · intro L_ wr hX_ hs_ hf_ hd_
                obtain ⟨v5, e5, r5⟩ := hd_ 5 rfl
                obtain ⟨a5, c5, rfl, hb5⟩ := r5
                obtain ⟨v3, e3, r3⟩ := hd_ 3 rfl
                obtain rfl : (.bool false : Value) = v3 := Eq.symm r3
                refine W.step [(106, _), (104, _)] (Sub.cons (e5 _ rfl) (Sub.cons (e3 _ rfl) (Sub.refl _))) ?_
                refine W.wants rfl rfl rfl rfl ?_
                refine W.bytesStr Try.underlying27 Try.underlying5 Try.underlying9 rfl hb5 rfl ?_
                refine W.nil ?_
                exact At.step (Ext.refl _) rfl
              refine And.intro ?_ ?_
              · intro L_ wr hX_ hs_ hf_ hd_
                obtain ⟨v3, e3, r3⟩ := hd_ 3 rfl
                obtain rfl : (.bool false : Value) = v3 := Eq.symm r3
                refine W.step [(0, _), (104, _)] (Sub.cons (hs_ _ _ rfl) (Sub.cons (e3 _ rfl) (Sub.refl _))) ?_
                refine W.wants rfl rfl rfl rfl ?_
                refine W.move rfl rfl ?_
                refine W.nil ?_
                exact At.step (Ext.refl _) rfl
              refine And.intro ?_ ?_
              · intro L_ wr hX_ hs_ hf_ hd_
                obtain ⟨v7, e7, r7⟩ := hd_ 7 rfl
                obtain rfl : (.slice ao b.length c : Value) = v7 := Eq.symm r7
                obtain ⟨v3, e3, r3⟩ := hd_ 3 rfl
                obtain rfl : (.bool false : Value) = v3 := Eq.symm r3
                refine W.step [(108, _), (104, _)] (Sub.cons (e7 _ rfl) (Sub.cons (e3 _ rfl) (Sub.refl _))) ?_
                refine W.wants rfl rfl rfl rfl ?_
                refine W.bytesStr Try.underlying27 Try.underlying5 Try.underlying9 rfl (hb99.ext hX_) rfl ?_
                refine W.nil ?_
                exact At.step (Ext.refl _) rfl
              refine And.intro ?_ ?_
              · intro L_ wr hX_ hs_ hf_ hd_
                obtain ⟨v6, e6, r6⟩ := hd_ 6 rfl
                obtain rfl : (strV b : Value) = v6 := Eq.symm r6
                obtain ⟨v8, e8, r8⟩ := hd_ 8 rfl
                obtain rfl : (strV b : Value) = v8 := Eq.symm r8
                obtain ⟨v3, e3, r3⟩ := hd_ 3 rfl
                obtain rfl : (.bool false : Value) = v3 := Eq.symm r3
                refine W.step [(107, _), (109, _), (104, _)] (Sub.cons (e6 _ rfl) (Sub.cons (e8 _ rfl) (Sub.cons (e3 _ rfl) (Sub.refl _)))) ?_
                refine W.wants rfl rfl rfl rfl ?_
                refine W.eqlStr rfl rfl rfl ?_
                refine W.eqv (bT (rfl)) ?_
                refine W.nil ?_
                exact At.step (Ext.refl _) rfl
              refine And.intro ?_ ?_
              · intro L_ wr hX_ hs_ hf_ hd_
                obtain ⟨v3, e3, r3⟩ := hd_ 3 rfl
                obtain rfl : (.bool false : Value) = v3 := Eq.symm r3
                obtain ⟨v9, e9, r9⟩ := hd_ 9 rfl
                obtain rfl : (.bool true : Value) = v9 := Eq.symm r9
                refine W.step [(104, _), (110, _)] (Sub.cons (e3 _ rfl) (Sub.cons (e9 _ rfl) (Sub.refl _))) ?_
                refine W.pickF rfl rfl rfl ?_
                refine W.nil ?_
                exact At.step (Ext.refl _) rfl
              refine And.intro ?_ ?_
              · intro L_ wr hX_ hs_ hf_ hd_
                obtain ⟨v10, e10, r10⟩ := hd_ 10 rfl
                obtain rfl : (.bool true : Value) = v10 := Eq.symm r10
                refine W.step [(111, _)] (Sub.cons (e10 _ rfl) (Sub.refl _)) ?_
                refine W.assign rfl rfl ?_
                refine W.nil ?_
                exact At.step (Ext.refl _) rfl
              exact trivial
            · intro L_ wr hX20 hs_ hv_
              obtain ⟨v11, e11, r11⟩ := hv_ 11 (by decide)
              obtain rfl : (.bool true : Value) = v11 := Eq.symm r11
              refine W.weaken (l' := [(2, _), (0, _), (16, _), (17, _)]) (Sub.cons (e11 _ rfl) (Sub.cons (hs_ _ _ rfl) (Sub.cons (hs_ _ _ rfl) (Sub.cons (hs_ _ _ rfl) (Sub.nil))))) ?_
              refine W.nil ?_
              refine At.thenCode ?_
              refine C.ret ?_
              refine At.ret1 Try.results9 rfl ?_
              first
              | exact ⟨rfl, Ext.below (hX99a.ext hX20)⟩
              | exact ⟨rfl, Ext.below hX18⟩
          · refine C.regionAny 12 ((fun v w => v = .int .i64 (noteRE b : Int)) :: (fun v w => v = .int .i64 (noteRE b : Int)) :: (fun v w => v = .bool true) :: (fun v w => v = .bool true) :: (fun v w => v = undef) :: (fun v w => v = undef) :: (fun v w => v = undef) :: (fun v w => v = undef) :: (fun v w => v = undef) :: (fun v w => v = undef) :: (fun v w => v = .bool true) :: (fun v w => v = .bool true) :: []) [(0, .slice ao b.length c), (16, .pointer (some ⟨g16, 0, none⟩)), (17, .int .i64 (noteRE b : Int))] [] (Sub.cons (rfl) (Sub.cons (rfl) (Sub.cons (rfl) (Sub.nil)))) (Sub.nil) (Sub.cons (rfl) (Sub.cons (rfl) (Sub.cons (rfl) (Sub.nil)))) (by kernel_rfl) rfl rfl rfl (And.intro (fun _ _ _ h _ => h) (And.intro (fun _ _ _ h _ => h) (And.intro (fun _ _ _ h _ => h) (And.intro (fun _ _ _ h _ => h) (And.intro (fun _ _ _ h _ => h) (And.intro (fun _ _ _ h _ => h) (And.intro (fun _ _ _ h _ => h) (And.intro (fun _ _ _ h _ => h) (And.intro (fun _ _ _ h _ => h) (And.intro (fun _ _ _ h _ => h) (And.intro (fun _ _ _ h _ => h) (And.intro (fun _ _ _ h _ => h) (trivial))))))))))))) ?_ ?_
            · refine And.intro ?_ ?_
              · intro L_ wr hX_ hs_ hf_ hd_
                refine W.step [(17, _)] (Sub.cons (hs_ _ _ rfl) (Sub.refl _)) ?_
                refine W.move rfl rfl ?_
                refine W.nil ?_
                exact At.step (Ext.refl _) rfl
              refine And.intro ?_ ?_
              · intro L_ wr hX_ hs_ hf_ hd_
                obtain ⟨v0, e0, r0⟩ := hd_ 0 rfl
                obtain rfl : (.int .i64 (noteRE b : Int) : Value) = v0 := Eq.symm r0
                refine W.step [(101, _)] (Sub.cons (e0 _ rfl) (Sub.refl _)) ?_
                refine W.call Try.call14 rfl (Law11.num_ok _ _) rfl ?_
                rintro v102 w102 ⟨rfl, rfl⟩
                refine W.nil ?_
                exact At.step (Ext.refl _) rfl
              refine And.intro ?_ ?_
              · intro L_ wr hX_ hs_ hf_ hd_
                obtain ⟨v1, e1, r1⟩ := hd_ 1 rfl
                obtain rfl : (.int .i64 (noteRE b : Int) : Value) = v1 := Eq.symm r1
                refine W.step [(102, _)] (Sub.cons (e1 _ rfl) (Sub.refl _)) ?_
                refine W.neqI rfl rfl rfl ?_
                refine W.eqv (bT (by omega)) ?_
                refine W.nil ?_
                exact At.step (Ext.refl _) rfl
              refine And.intro ?_ ?_
              · intro L_ wr hX_ hs_ hf_ hd_
                obtain ⟨v2, e2, r2⟩ := hd_ 2 rfl
                obtain rfl : (.bool true : Value) = v2 := Eq.symm r2
                refine W.step [(103, _)] (Sub.cons (e2 _ rfl) (Sub.refl _)) ?_
                refine W.move rfl rfl ?_
                refine W.nil ?_
                exact At.step (Ext.refl _) rfl
              refine And.intro ?_ ?_
              · intro L_ wr hX_ hs_ hf_ hd_
                obtain ⟨v3, e3, r3⟩ := hd_ 3 rfl
                obtain rfl : (.bool true : Value) = v3 := Eq.symm r3
                refine W.step [(104, _)] (Sub.cons (e3 _ rfl) (Sub.refl _)) ?_
                refine W.skips rfl rfl rfl rfl rfl rfl ?_
                refine W.nil ?_
                exact At.step (Ext.refl _) rfl
              refine And.intro ?_ ?_
              · intro L_ wr hX_ hs_ hf_ hd_
                obtain ⟨v3, e3, r3⟩ := hd_ 3 rfl
                obtain rfl : (.bool true : Value) = v3 := Eq.symm r3
                refine W.step [(104, _)] (Sub.cons (e3 _ rfl) (Sub.refl _)) ?_
                refine W.skips rfl rfl rfl rfl rfl rfl ?_
                refine W.nil ?_
                exact At.step (Ext.refl _) rfl
              refine And.intro ?_ ?_
              · intro L_ wr hX_ hs_ hf_ hd_
                obtain ⟨v3, e3, r3⟩ := hd_ 3 rfl
                obtain rfl : (.bool true : Value) = v3 := Eq.symm r3
                refine W.step [(104, _)] (Sub.cons (e3 _ rfl) (Sub.refl _)) ?_
                refine W.skips rfl rfl rfl rfl rfl rfl ?_
                refine W.nil ?_
                exact At.step (Ext.refl _) rfl
              refine And.intro ?_ ?_
              · intro L_ wr hX_ hs_ hf_ hd_
                obtain ⟨v3, e3, r3⟩ := hd_ 3 rfl
                obtain rfl : (.bool true : Value) = v3 := Eq.symm r3
                refine W.step [(104, _)] (Sub.cons (e3 _ rfl) (Sub.refl _)) ?_
                refine W.skips rfl rfl rfl rfl rfl rfl ?_
                refine W.nil ?_
                exact At.step (Ext.refl _) rfl
              refine And.intro ?_ ?_
              · intro L_ wr hX_ hs_ hf_ hd_
                obtain ⟨v3, e3, r3⟩ := hd_ 3 rfl
                obtain rfl : (.bool true : Value) = v3 := Eq.symm r3
                refine W.step [(104, _)] (Sub.cons (e3 _ rfl) (Sub.refl _)) ?_
                refine W.skips rfl rfl rfl rfl rfl rfl ?_
                refine W.nil ?_
                exact At.step (Ext.refl _) rfl
              refine And.intro ?_ ?_
              · intro L_ wr hX_ hs_ hf_ hd_
                obtain ⟨v3, e3, r3⟩ := hd_ 3 rfl
                obtain rfl : (.bool true : Value) = v3 := Eq.symm r3
                refine W.step [(104, _)] (Sub.cons (e3 _ rfl) (Sub.refl _)) ?_
                refine W.skips rfl rfl rfl rfl rfl rfl ?_
                refine W.nil ?_
                exact At.step (Ext.refl _) rfl
              refine And.intro ?_ ?_
              · intro L_ wr hX_ hs_ hf_ hd_
                obtain ⟨v3, e3, r3⟩ := hd_ 3 rfl
                obtain rfl : (.bool true : Value) = v3 := Eq.symm r3
                obtain ⟨v9, e9, r9⟩ := hd_ 9 rfl
                obtain rfl : (undef : Value) = v9 := Eq.symm r9
                refine W.step [(104, _), (110, _)] (Sub.cons (e3 _ rfl) (Sub.cons (e9 _ rfl) (Sub.refl _))) ?_
                refine W.pickT rfl rfl rfl ?_
                refine W.nil ?_
                exact At.step (Ext.refl _) rfl
              refine And.intro ?_ ?_
              · intro L_ wr hX_ hs_ hf_ hd_
                obtain ⟨v10, e10, r10⟩ := hd_ 10 rfl
                obtain rfl : (.bool true : Value) = v10 := Eq.symm r10
                refine W.step [(111, _)] (Sub.cons (e10 _ rfl) (Sub.refl _)) ?_
                refine W.assign rfl rfl ?_
                refine W.nil ?_
                exact At.step (Ext.refl _) rfl
              exact trivial
            · intro L_ wr hX20 hs_ hv_
              obtain ⟨v11, e11, r11⟩ := hv_ 11 (by decide)
              obtain rfl : (.bool true : Value) = v11 := Eq.symm r11
              refine W.weaken (l' := [(2, _), (0, _), (16, _), (17, _)]) (Sub.cons (e11 _ rfl) (Sub.cons (hs_ _ _ rfl) (Sub.cons (hs_ _ _ rfl) (Sub.cons (hs_ _ _ rfl) (Sub.nil))))) ?_
              refine W.nil ?_
              refine At.thenCode ?_
              refine C.ret ?_
              refine At.ret1 Try.results9 rfl ?_
              first
              | exact ⟨rfl, Ext.below (hX99a.ext hX20)⟩
              | exact ⟨rfl, Ext.below hX18⟩
        · have hbC := hb76
          have hXC := hX76a
          refine C.skip ?_
          refine At.thenCode ?_
          refine C.seq ?_
          refine C.region ?_
          refine W.move rfl rfl ?_
          refine W.call Try.call12 rfl (Cod.ReadNote_ok ao c b _ hbC hlen) rfl ?_
          rintro v98 w98 ⟨rfl, hX98⟩
          obtain ⟨nr, hnr⟩ : ∃ nr, nr = noteR b := ⟨_, rfl⟩
          have hng := note_again b
          have hno := noteR_ok b
          rw [← hnr] at hng hno ⊢
          have hnl := noteC_length hno
          refine W.move rfl rfl ?_
          refine W.extract rfl rfl rfl ?_
          refine W.extract rfl rfl rfl ?_
          refine W.alloc (z := .agg zeroNoteC.toArray) zeroNoteC (by kernel_rfl) rfl rfl ?_
          intro g16 w16 hg16 hX16 hB16
          refine W.storeA (noteC nr) rfl rfl hB16 (by rw [hnl]; rfl) (by rw [hnl]; kernel_rfl) (noteC_one _) ?_
          intro w99 hc99 hB99
          have hX99 : Ext w98 w99 := hX16.news hc99 fun k hk => Or.inr (by omega)
          have hb99 := (hbC.ext hX98).ext hX99
          have hX99a := (hXC.ext hX98).ext hX99
          refine W.assign rfl rfl ?_
          refine W.nil ?_
          refine At.thenCode ?_
          refine C.seq ?_
          by_cases hz : noteRE b = 0
          · refine C.regionAny 12 ((fun v w => v = .int .i64 (noteRE b : Int)) :: (fun v w => v = .int .i64 (noteRE b : Int)) :: (fun v w => v = .bool false) :: (fun v w => v = .bool false) :: (fun v w => v = .agg (noteC nr).toArray) :: (fun v w => Rep w v b) :: (fun v w => v = strV b) :: (fun v w => v = .slice ao b.length c) :: (fun v w => v = strV b) :: (fun v w => v = .bool true) :: (fun v w => v = .bool true) :: (fun v w => v = .bool true) :: []) [(0, .slice ao b.length c), (16, .pointer (some ⟨g16, 0, none⟩)), (17, .int .i64 (noteRE b : Int))] [] (Sub.cons (rfl) (Sub.cons (rfl) (Sub.cons (rfl) (Sub.nil)))) (Sub.nil) (Sub.cons (rfl) (Sub.cons (rfl) (Sub.cons (rfl) (Sub.nil)))) (by kernel_rfl) rfl rfl rfl (And.intro (fun _ _ _ h _ => h) (And.intro (fun _ _ _ h _ => h) (And.intro (fun _ _ _ h _ => h) (And.intro (fun _ _ _ h _ => h) (And.intro (fun _ _ _ h _ => h) (And.intro (fun _ _ _ h g => h.ext g) (And.intro (fun _ _ _ h _ => h) (And.intro (fun _ _ _ h _ => h) (And.intro (fun _ _ _ h _ => h) (And.intro (fun _ _ _ h _ => h) (And.intro (fun _ _ _ h _ => h) (And.intro (fun _ _ _ h _ => h) (trivial))))))))))))) ?_ ?_
            · refine And.intro ?_ ?_
              · intro L_ wr hX_ hs_ hf_ hd_
                refine W.step [(17, _)] (Sub.cons (hs_ _ _ rfl) (Sub.refl _)) ?_
                refine W.move rfl rfl ?_
                refine W.nil ?_
                exact At.step (Ext.refl _) rfl
              refine And.intro ?_ ?_
              · intro L_ wr hX_ hs_ hf_ hd_
                obtain ⟨v0, e0, r0⟩ := hd_ 0 rfl
                obtain rfl : (.int .i64 (noteRE b : Int) : Value) = v0 := Eq.symm r0
                refine W.step [(101, _)] (Sub.cons (e0 _ rfl) (Sub.refl _)) ?_
                refine W.call Try.call14 rfl (Law11.num_ok _ _) rfl ?_
                rintro v102 w102 ⟨rfl, rfl⟩
                refine W.nil ?_
                exact At.step (Ext.refl _) rfl
              refine And.intro ?_ ?_
              · intro L_ wr hX_ hs_ hf_ hd_
                obtain ⟨v1, e1, r1⟩ := hd_ 1 rfl
                obtain rfl : (.int .i64 (noteRE b : Int) : Value) = v1 := Eq.symm r1
                refine W.step [(102, _)] (Sub.cons (e1 _ rfl) (Sub.refl _)) ?_
                refine W.neqI rfl rfl rfl ?_
                refine W.eqv (bF (by omega)) ?_
                refine W.nil ?_
                exact At.step (Ext.refl _) rfl
              refine And.intro ?_ ?_
              · intro L_ wr hX_ hs_ hf_ hd_
                obtain ⟨v2, e2, r2⟩ := hd_ 2 rfl
                obtain rfl : (.bool false : Value) = v2 := Eq.symm r2
                refine W.step [(103, _)] (Sub.cons (e2 _ rfl) (Sub.refl _)) ?_
                refine W.move rfl rfl ?_
                refine W.nil ?_
                exact At.step (Ext.refl _) rfl
              refine And.intro ?_ ?_
              · intro L_ wr hX_ hs_ hf_ hd_
                obtain ⟨v3, e3, r3⟩ := hd_ 3 rfl
                obtain rfl : (.bool false : Value) = v3 := Eq.symm r3
                refine W.step [(16, _), (104, _)] (Sub.cons (hs_ _ _ rfl) (Sub.cons (e3 _ rfl) (Sub.refl _))) ?_
                refine W.wants rfl rfl rfl rfl ?_
                refine W.loadA rfl ((hB99.ext hX_).cells (o := 0)) Try.underlying25 rfl (by rw [List.drop_zero, hnl]; kernel_rfl) rfl ?_
                rw [List.drop_zero]
                refine W.nil ?_
                exact At.step (Ext.refl _) rfl
              refine And.intro ?_ ?_
              · intro L_ wr hX_ hs_ hf_ hd_
                obtain ⟨v4, e4, r4⟩ := hd_ 4 rfl
                obtain rfl : (.agg (noteC nr).toArray : Value) = v4 := Eq.symm r4
                obtain ⟨v3, e3, r3⟩ := hd_ 3 rfl
                obtain rfl : (.bool false : Value) = v3 := Eq.symm r3
                refine W.step [(105, _), (104, _)] (Sub.cons (e4 _ rfl) (Sub.cons (e3 _ rfl) (Sub.refl _))) ?_
                refine W.wants rfl rfl rfl rfl ?_
                refine W.call Try.call11 rfl (Cod.Note_ok nr _ hno) rfl ?_
                rintro v106 w106 ⟨ao106, c106, rfl, hN106, hX106⟩
                refine W.nil ?_
                exact At.step hX106 (by have := hng hz; rw [this] at hN106; exact ⟨ao106, c106, by rw [this], hN106.1⟩)
              refine And.intro ?_ ?_
              · intro L_ wr hX_ hs_ hf_ hd_
                obtain ⟨v5, e5, r5⟩ := hd_ 5 rfl
                obtain ⟨a5, c5, rfl, hb5⟩ := r5
                obtain ⟨v3, e3, r3⟩ := hd_ 3 rfl
                obtain rfl : (.bool false : Value) = v3 := Eq.symm r3
                refine W.step [(106, _), (104, _)] (Sub.cons (e5 _ rfl) (Sub.cons (e3 _ rfl) (Sub.refl _))) ?_
                refine W.wants rfl rfl rfl rfl ?_
                refine W.bytesStr Try.underlying27 Try.underlying5 Try.underlying9 rfl hb5 rfl ?_
                refine W.nil ?_
                exact At.step (Ext.refl _) rfl
              refine And.intro ?_ ?_
              · intro L_ wr hX_ hs_ hf_ hd_
                obtain ⟨v3, e3, r3⟩ := hd_ 3 rfl
                obtain rfl : (.bool false : Value) = v3 := Eq.symm r3
                refine W.step [(0, _), (104, _)] (Sub.cons (hs_ _ _ rfl) (Sub.cons (e3 _ rfl) (Sub.refl _))) ?_
                refine W.wants rfl rfl rfl rfl ?_
                refine W.move rfl rfl ?_
                refine W.nil ?_
                exact At.step (Ext.refl _) rfl
              refine And.intro ?_ ?_
              · intro L_ wr hX_ hs_ hf_ hd_
                obtain ⟨v7, e7, r7⟩ := hd_ 7 rfl
                obtain rfl : (.slice ao b.length c : Value) = v7 := Eq.symm r7
                obtain ⟨v3, e3, r3⟩ := hd_ 3 rfl
                obtain rfl : (.bool false : Value) = v3 := Eq.symm r3
                refine W.step [(108, _), (104, _)] (Sub.cons (e7 _ rfl) (Sub.cons (e3 _ rfl) (Sub.refl _))) ?_
                refine W.wants rfl rfl rfl rfl ?_
                refine W.bytesStr Try.underlying27 Try.underlying5 Try.underlying9 rfl (hb99.ext hX_) rfl ?_
                refine W.nil ?_
                exact At.step (Ext.refl _) rfl
              refine And.intro ?_ ?_
              · intro L_ wr hX_ hs_ hf_ hd_
                obtain ⟨v6, e6, r6⟩ := hd_ 6 rfl
                obtain rfl : (strV b : Value) = v6 := Eq.symm r6
                obtain ⟨v8, e8, r8⟩ := hd_ 8 rfl
                obtain rfl : (strV b : Value) = v8 := Eq.symm r8
                obtain ⟨v3, e3, r3⟩ := hd_ 3 rfl
                obtain rfl : (.bool false : Value) = v3 := Eq.symm r3
                refine W.step [(107, _), (109, _), (104, _)] (Sub.cons (e6 _ rfl) (Sub.cons (e8 _ rfl) (Sub.cons (e3 _ rfl) (Sub.refl _)))) ?_
                refine W.wants rfl rfl rfl rfl ?_
                refine W.eqlStr rfl rfl rfl ?_
                refine W.eqv (bT (rfl)) ?_
                refine W.nil ?_
                exact At.step (Ext.refl _) rfl
              refine And.intro ?_ ?_
              · intro L_ wr hX_ hs_ hf_ hd_
                obtain ⟨v3, e3, r3⟩ := hd_ 3 rfl
                obtain rfl : (.bool false : Value) = v3 := Eq.symm r3
                obtain ⟨v9, e9, r9⟩ := hd_ 9 rfl
                obtain rfl : (.bool true : Value) = v9 := Eq.symm r9
                refine W.step [(104, _), (110, _)] (Sub.cons (e3 _ rfl) (Sub.cons (e9 _ rfl) (Sub.refl _))) ?_
                refine W.pickF rfl rfl rfl ?_
                refine W.nil ?_
                exact At.step (Ext.refl _) rfl
              refine And.intro ?_ ?_
              · intro L_ wr hX_ hs_ hf_ hd_
                obtain ⟨v10, e10, r10⟩ := hd_ 10 rfl
                obtain rfl : (.bool true : Value) = v10 := Eq.symm r10
                refine W.step [(111, _)] (Sub.cons (e10 _ rfl) (Sub.refl _)) ?_
                refine W.assign rfl rfl ?_
                refine W.nil ?_
                exact At.step (Ext.refl _) rfl
              exact trivial
            · intro L_ wr hX20 hs_ hv_
              obtain ⟨v11, e11, r11⟩ := hv_ 11 (by decide)
              obtain rfl : (.bool true : Value) = v11 := Eq.symm r11
              refine W.weaken (l' := [(2, _), (0, _), (16, _), (17, _)]) (Sub.cons (e11 _ rfl) (Sub.cons (hs_ _ _ rfl) (Sub.cons (hs_ _ _ rfl) (Sub.cons (hs_ _ _ rfl) (Sub.nil))))) ?_
              refine W.nil ?_
              refine At.thenCode ?_
              refine C.ret ?_
              refine At.ret1 Try.results9 rfl ?_
              first
              | exact ⟨rfl, Ext.below (hX99a.ext hX20)⟩
              | exact ⟨rfl, Ext.below hX18⟩
          · refine C.regionAny 12 ((fun v w => v = .int .i64 (noteRE b : Int)) :: (fun v w => v = .int .i64 (noteRE b : Int)) :: (fun v w => v = .bool true) :: (fun v w => v = .bool true) :: (fun v w => v = undef) :: (fun v w => v = undef) :: (fun v w => v = undef) :: (fun v w => v = undef) :: (fun v w => v = undef) :: (fun v w => v = undef) :: (fun v w => v = .bool true) :: (fun v w => v = .bool true) :: []) [(0, .slice ao b.length c), (16, .pointer (some ⟨g16, 0, none⟩)), (17, .int .i64 (noteRE b : Int))] [] (Sub.cons (rfl) (Sub.cons (rfl) (Sub.cons (rfl) (Sub.nil)))) (Sub.nil) (Sub.cons (rfl) (Sub.cons (rfl) (Sub.cons (rfl) (Sub.nil)))) (by kernel_rfl) rfl rfl rfl (And.intro (fun _ _ _ h _ => h) (And.intro (fun _ _ _ h _ => h) (And.intro (fun _ _ _ h _ => h) (And.intro (fun _ _ _ h _ => h) (And.intro (fun _ _ _ h _ => h) (And.intro (fun _ _ _ h _ => h) (And.intro (fun _ _ _ h _ => h) (And.intro (fun _ _ _ h _ => h) (And.intro (fun _ _ _ h _ => h) (And.intro (fun _ _ _ h _ => h) (And.intro (fun _ _ _ h _ => h) (And.intro (fun _ _ _ h _ => h) (trivial))))))))))))) ?_ ?_
            · refine And.intro ?_ ?_
              · intro L_ wr hX_ hs_ hf_ hd_
                refine W.step [(17, _)] (Sub.cons (hs_ _ _ rfl) (Sub.refl _)) ?_
                refine W.move rfl rfl ?_
                refine W.nil ?_
                exact At.step (Ext.refl _) rfl
              refine And.intro ?_ ?_
              · intro L_ wr hX_ hs_ hf_ hd_
                obtain ⟨v0, e0, r0⟩ := hd_ 0 rfl
                obtain rfl : (.int .i64 (noteRE b : Int) : Value) = v0 := Eq.symm r0
                refine W.step [(101, _)] (Sub.cons (e0 _ rfl) (Sub.refl _)) ?_
                refine W.call Try.call14 rfl (Law11.num_ok _ _) rfl ?_
                rintro v102 w102 ⟨rfl, rfl⟩
                refine W.nil ?_
                exact At.step (Ext.refl _) rfl
              refine And.intro ?_ ?_
              · intro L_ wr hX_ hs_ hf_ hd_
                obtain ⟨v1, e1, r1⟩ := hd_ 1 rfl
                obtain rfl : (.int .i64 (noteRE b : Int) : Value) = v1 := Eq.symm r1
                refine W.step [(102, _)] (Sub.cons (e1 _ rfl) (Sub.refl _)) ?_
                refine W.neqI rfl rfl rfl ?_
                refine W.eqv (bT (by omega)) ?_
                refine W.nil ?_
                exact At.step (Ext.refl _) rfl
              refine And.intro ?_ ?_
              · intro L_ wr hX_ hs_ hf_ hd_
                obtain ⟨v2, e2, r2⟩ := hd_ 2 rfl
                obtain rfl : (.bool true : Value) = v2 := Eq.symm r2
                refine W.step [(103, _)] (Sub.cons (e2 _ rfl) (Sub.refl _)) ?_
                refine W.move rfl rfl ?_
                refine W.nil ?_
                exact At.step (Ext.refl _) rfl
              refine And.intro ?_ ?_
              · intro L_ wr hX_ hs_ hf_ hd_
                obtain ⟨v3, e3, r3⟩ := hd_ 3 rfl
                obtain rfl : (.bool true : Value) = v3 := Eq.symm r3
                refine W.step [(104, _)] (Sub.cons (e3 _ rfl) (Sub.refl _)) ?_
                refine W.skips rfl rfl rfl rfl rfl rfl ?_
                refine W.nil ?_
                exact At.step (Ext.refl _) rfl
              refine And.intro ?_ ?_
              · intro L_ wr hX_ hs_ hf_ hd_
                obtain ⟨v3, e3, r3⟩ := hd_ 3 rfl
                obtain rfl : (.bool true : Value) = v3 := Eq.symm r3
                refine W.step [(104, _)] (Sub.cons (e3 _ rfl) (Sub.refl _)) ?_
                refine W.skips rfl rfl rfl rfl rfl rfl ?_
                refine W.nil ?_
                exact At.step (Ext.refl _) rfl
              refine And.intro ?_ ?_
              · intro L_ wr hX_ hs_ hf_ hd_
                obtain ⟨v3, e3, r3⟩ := hd_ 3 rfl
                obtain rfl : (.bool true : Value) = v3 := Eq.symm r3
                refine W.step [(104, _)] (Sub.cons (e3 _ rfl) (Sub.refl _)) ?_
                refine W.skips rfl rfl rfl rfl rfl rfl ?_
                refine W.nil ?_
                exact At.step (Ext.refl _) rfl
              refine And.intro ?_ ?_
              · intro L_ wr hX_ hs_ hf_ hd_
                obtain ⟨v3, e3, r3⟩ := hd_ 3 rfl
                obtain rfl : (.bool true : Value) = v3 := Eq.symm r3
                refine W.step [(104, _)] (Sub.cons (e3 _ rfl) (Sub.refl _)) ?_
                refine W.skips rfl rfl rfl rfl rfl rfl ?_
                refine W.nil ?_
                exact At.step (Ext.refl _) rfl
              refine And.intro ?_ ?_
              · intro L_ wr hX_ hs_ hf_ hd_
                obtain ⟨v3, e3, r3⟩ := hd_ 3 rfl
                obtain rfl : (.bool true : Value) = v3 := Eq.symm r3
                refine W.step [(104, _)] (Sub.cons (e3 _ rfl) (Sub.refl _)) ?_
                refine W.skips rfl rfl rfl rfl rfl rfl ?_
                refine W.nil ?_
                exact At.step (Ext.refl _) rfl
              refine And.intro ?_ ?_
              · intro L_ wr hX_ hs_ hf_ hd_
                obtain ⟨v3, e3, r3⟩ := hd_ 3 rfl
                obtain rfl : (.bool true : Value) = v3 := Eq.symm r3
                refine W.step [(104, _)] (Sub.cons (e3 _ rfl) (Sub.refl _)) ?_
                refine W.skips rfl rfl rfl rfl rfl rfl ?_
                refine W.nil ?_
                exact At.step (Ext.refl _) rfl
              refine And.intro ?_ ?_
              · intro L_ wr hX_ hs_ hf_ hd_
                obtain ⟨v3, e3, r3⟩ := hd_ 3 rfl
                obtain rfl : (.bool true : Value) = v3 := Eq.symm r3
                obtain ⟨v9, e9, r9⟩ := hd_ 9 rfl
                obtain rfl : (undef : Value) = v9 := Eq.symm r9
                refine W.step [(104, _), (110, _)] (Sub.cons (e3 _ rfl) (Sub.cons (e9 _ rfl) (Sub.refl _))) ?_
                refine W.pickT rfl rfl rfl ?_
                refine W.nil ?_
                exact At.step (Ext.refl _) rfl
              refine And.intro ?_ ?_
              · intro L_ wr hX_ hs_ hf_ hd_
                obtain ⟨v10, e10, r10⟩ := hd_ 10 rfl
                obtain rfl : (.bool true : Value) = v10 := Eq.symm r10
                refine W.step [(111, _)] (Sub.cons (e10 _ rfl) (Sub.refl _)) ?_
                refine W.assign rfl rfl ?_
                refine W.nil ?_
                exact At.step (Ext.refl _) rfl
              exact trivial
            · intro L_ wr hX20 hs_ hv_
              obtain ⟨v11, e11, r11⟩ := hv_ 11 (by decide)
              obtain rfl : (.bool true : Value) = v11 := Eq.symm r11
              refine W.weaken (l' := [(2, _), (0, _), (16, _), (17, _)]) (Sub.cons (e11 _ rfl) (Sub.cons (hs_ _ _ rfl) (Sub.cons (hs_ _ _ rfl) (Sub.cons (hs_ _ _ rfl) (Sub.nil))))) ?_
              refine W.nil ?_
              refine At.thenCode ?_
              refine C.ret ?_
              refine At.ret1 Try.results9 rfl ?_
              first
              | exact ⟨rfl, Ext.below (hX99a.ext hX20)⟩
              | exact ⟨rfl, Ext.below hX18⟩
      · have hbB := hb53
        have hXB := hX53a
        refine C.skip ?_
        refine At.thenCode ?_
        refine C.seq ?_
        refine C.region ?_
        refine W.move rfl rfl ?_
        refine W.call Try.call23 rfl (Cod.ReadBatch_ok ao c b _ hbB hlen) rfl ?_
        rintro v75 w75 ⟨vi75, vl75, rfl, hI75, hL75, hX75⟩
        obtain ⟨xr, hxr⟩ : ∃ xr, xr = batR b := ⟨_, rfl⟩
        have hxg := bat_again b
        have hxo := batR_ok b
        rw [← hxr] at hI75 hL75 hxg hxo ⊢
        have hvi := rNums.one hI75 vi75 (by simp)
        have hvl := (rSl 33 rLet).one hL75 vl75 (by simp)
        refine W.move rfl rfl ?_
        refine W.extract rfl rfl rfl ?_
        refine W.extract rfl rfl rfl ?_
        refine W.alloc (z := .agg zeroBatC.toArray) zeroBatC (by kernel_rfl) rfl rfl ?_
        intro g12 w12 hg12 hX12 hB12
        refine W.storeA (batC xr vi75 vl75) rfl rfl hB12 rfl (by kernel_rfl) (batC_one _ hvi hvl) ?_
        intro w76 hc76 hB76
        have hX76 : Ext w75 w76 := hX12.news hc76 fun k hk => Or.inr (by omega)
        have hI76 : RNums (fun _ => False) w76 [vi75] xr.inner := rNums.new (RdOk.ext rNums hI75 hX76) fun k h _ => h.elim
        have hL76 : RSl 33 RLet (fun _ => False) w76 [vl75] xr.lets := (rSl 33 rLet).new (RdOk.ext (rSl 33 rLet) hL75 hX76) fun k h _ => h.elim
        have hb76 := (hbB.ext hX75).ext hX76
        have hX76a := (hXB.ext hX75).ext hX76
        refine W.assign rfl rfl ?_
        refine W.nil ?_
        refine At.thenCode ?_
        refine C.seq ?_
        refine C.seq ?_
        refine C.region ?_
        refine W.move rfl rfl ?_
        refine W.call Try.call14 rfl (Law11.num_ok _ _) rfl ?_
        rintro v79 w79 ⟨rfl, rfl⟩
        refine W.eqlI rfl rfl rfl ?_
        refine W.nil ?_
        refine At.thenCode ?_
        first | refine C.condD rfl (fun c80 => ?_) (fun c80 => ?_) | refine C.cond rfl (fun c80 => ?_) (fun c80 => ?_)
        · have h2 : batRE b = 0 := by omega
          obtain ⟨n1, n2⟩ := hxg h2
          obtain ⟨n3, n4, n5⟩ := bat_small n1
          refine C.seq ?_
          refine C.region ?_
          refine W.loadA rfl (hB76.cells (o := 0)) Try.underlying60 rfl (by kernel_rfl) rfl ?_
          rw [List.drop_zero]
          refine W.call Try.call31 rfl (Cod.Batch_ok xr vi75 vl75 _ hI76 hL76 hxo (by omega) (by omega) (fun p hp => by have := n5 p hp; omega)) rfl ?_
          rintro v83 w83 ⟨ao83, c83, rfl, hN83, hX83⟩
          rw [n1, n2] at *
          refine W.move rfl rfl ?_
          refine W.extract rfl rfl rfl ?_
          refine W.extract rfl rfl rfl ?_
          refine W.assign rfl rfl ?_
          refine W.assign rfl rfl ?_
          refine W.nil ?_
          refine At.thenCode ?_
          refine C.seq ?_
          refine C.region ?_
          refine W.move rfl rfl ?_
          refine W.call Try.call14 rfl (Law11.num_ok _ _) rfl ?_
          rintro v87 w87 ⟨rfl, rfl⟩
          refine W.neqI rfl rfl rfl ?_
          refine W.eqv (bF (fun h => h rfl)) ?_
          refine W.move rfl rfl ?_
          refine W.wants rfl rfl rfl rfl ?_
          refine W.move rfl rfl ?_
          refine W.wants rfl rfl rfl rfl ?_
          refine W.bytesStr Try.underlying27 Try.underlying5 Try.underlying9 rfl hN83.1 rfl ?_
          refine W.wants rfl rfl rfl rfl ?_
          refine W.move rfl rfl ?_
          refine W.wants rfl rfl rfl rfl ?_
          refine W.bytesStr Try.underlying27 Try.underlying5 Try.underlying9 rfl (hb76.ext hX83) rfl ?_
          refine W.wants rfl rfl rfl rfl ?_
          refine W.neqStr rfl rfl rfl ?_
          refine W.eqv (bF (fun h => h rfl)) ?_
          refine W.pickF rfl rfl rfl ?_
          refine W.nil ?_
          refine At.thenCode ?_
          refine C.condF rfl ?_
          -- known too
          have hbC := hb76.ext hX83
          have hXC := hX76a.ext hX83
          refine C.skip ?_
          refine At.thenCode ?_
          refine C.seq ?_
          refine C.region ?_
          refine W.move rfl rfl ?_
          refine W.call Try.call12 rfl (Cod.ReadNote_ok ao c b _ hbC hlen) rfl ?_
          rintro v98 w98 ⟨rfl, hX98⟩
          obtain ⟨nr, hnr⟩ : ∃ nr, nr = noteR b := ⟨_, rfl⟩
          have hng := note_again b
          have hno := noteR_ok b
          rw [← hnr] at hng hno ⊢
          have hnl := noteC_length hno
          refine W.move rfl rfl ?_
          refine W.extract rfl rfl rfl ?_
          refine W.extract rfl rfl rfl ?_
          refine W.alloc (z := .agg zeroNoteC.toArray) zeroNoteC (by kernel_rfl) rfl rfl ?_
          intro g16 w16 hg16 hX16 hB16
          refine W.storeA (noteC nr) rfl rfl hB16 (by rw [hnl]; rfl) (by rw [hnl]; kernel_rfl) (noteC_one _) ?_
          intro w99 hc99 hB99
          have hX99 : Ext w98 w99 := hX16.news hc99 fun k hk => Or.inr (by omega)
          have hb99 := (hbC.ext hX98).ext hX99
          have hX99a := (hXC.ext hX98).ext hX99
          refine W.assign rfl rfl ?_
          refine W.nil ?_
          refine At.thenCode ?_
          refine C.seq ?_
          by_cases hz : noteRE b = 0
          · refine C.regionAny 12 ((fun v w => v = .int .i64 (noteRE b : Int)) :: (fun v w => v = .int .i64 (noteRE b : Int)) :: (fun v w => v = .bool false) :: (fun v w => v = .bool false) :: (fun v w => v = .agg (noteC nr).toArray) :: (fun v w => Rep w v b) :: (fun v w => v = strV b) :: (fun v w => v = .slice ao b.length c) :: (fun v w => v = strV b) :: (fun v w => v = .bool true) :: (fun v w => v = .bool true) :: (fun v w => v = .bool true) :: []) [(0, .slice ao b.length c), (16, .pointer (some ⟨g16, 0, none⟩)), (17, .int .i64 (noteRE b : Int))] [] (Sub.cons (rfl) (Sub.cons (rfl) (Sub.cons (rfl) (Sub.nil)))) (Sub.nil) (Sub.cons (rfl) (Sub.cons (rfl) (Sub.cons (rfl) (Sub.nil)))) (by kernel_rfl) rfl rfl rfl (And.intro (fun _ _ _ h _ => h) (And.intro (fun _ _ _ h _ => h) (And.intro (fun _ _ _ h _ => h) (And.intro (fun _ _ _ h _ => h) (And.intro (fun _ _ _ h _ => h) (And.intro (fun _ _ _ h g => h.ext g) (And.intro (fun _ _ _ h _ => h) (And.intro (fun _ _ _ h _ => h) (And.intro (fun _ _ _ h _ => h) (And.intro (fun _ _ _ h _ => h) (And.intro (fun _ _ _ h _ => h) (And.intro (fun _ _ _ h _ => h) (trivial))))))))))))) ?_ ?_
            · refine And.intro ?_ ?_
              · intro L_ wr hX_ hs_ hf_ hd_
                refine W.step [(17, _)] (Sub.cons (hs_ _ _ rfl) (Sub.refl _)) ?_
                refine W.move rfl rfl ?_
                refine W.nil ?_
                exact At.step (Ext.refl _) rfl
              refine And.intro ?_ ?_
              · intro L_ wr hX_ hs_ hf_ hd_
                obtain ⟨v0, e0, r0⟩ := hd_ 0 rfl
                obtain rfl : (.int .i64 (noteRE b : Int) : Value) = v0 := Eq.symm r0
                refine W.step [(101, _)] (Sub.cons (e0 _ rfl) (Sub.refl _)) ?_
                refine W.call Try.call14 rfl (Law11.num_ok _ _) rfl ?_
                rintro v102 w102 ⟨rfl, rfl⟩
                refine W.nil ?_
                exact At.step (Ext.refl _) rfl
              refine And.intro ?_ ?_
              · intro L_ wr hX_ hs_ hf_ hd_
                obtain ⟨v1, e1, r1⟩ := hd_ 1 rfl
                obtain rfl : (.int .i64 (noteRE b : Int) : Value) = v1 := Eq.symm r1
                refine W.step [(102, _)] (Sub.cons (e1 _ rfl) (Sub.refl _)) ?_
                refine W.neqI rfl rfl rfl ?_
                refine W.eqv (bF (by omega)) ?_
                refine W.nil ?_
                exact At.step (Ext.refl _) rfl
              refine And.intro ?_ ?_
              · intro L_ wr hX_ hs_ hf_ hd_
                obtain ⟨v2, e2, r2⟩ := hd_ 2 rfl
                obtain rfl : (.bool false : Value) = v2 := Eq.symm r2
                refine W.step [(103, _)] (Sub.cons (e2 _ rfl) (Sub.refl _)) ?_
                refine W.move rfl rfl ?_
                refine W.nil ?_
                exact At.step (Ext.refl _) rfl
              refine And.intro ?_ ?_
              · intro L_ wr hX_ hs_ hf_ hd_
                obtain ⟨v3, e3, r3⟩ := hd_ 3 rfl
                obtain rfl : (.bool false : Value) = v3 := Eq.symm r3
                refine W.step [(16, _), (104, _)] (Sub.cons (hs_ _ _ rfl) (Sub.cons (e3 _ rfl) (Sub.refl _))) ?_
                refine W.wants rfl rfl rfl rfl ?_
                refine W.loadA rfl ((hB99.ext hX_).cells (o := 0)) Try.underlying25 rfl (by rw [List.drop_zero, hnl]; kernel_rfl) rfl ?_
                rw [List.drop_zero]
                refine W.nil ?_
                exact At.step (Ext.refl _) rfl
              refine And.intro ?_ ?_
              · intro L_ wr hX_ hs_ hf_ hd_
                obtain ⟨v4, e4, r4⟩ := hd_ 4 rfl
                obtain rfl : (.agg (noteC nr).toArray : Value) = v4 := Eq.symm r4
                obtain ⟨v3, e3, r3⟩ := hd_ 3 rfl
                obtain rfl : (.bool false : Value) = v3 := Eq.symm r3
                refine W.step [(105, _), (104, _)] (Sub.cons (e4 _ rfl) (Sub.cons (e3 _ rfl) (Sub.refl _))) ?_
                refine W.wants rfl rfl rfl rfl ?_
                refine W.call Try.call11 rfl (Cod.Note_ok nr _ hno) rfl ?_
                rintro v106 w106 ⟨ao106, c106, rfl, hN106, hX106⟩
                refine W.nil ?_
                exact At.step hX106 (by have := hng hz; rw [this] at hN106; exact ⟨ao106, c106, by rw [this], hN106.1⟩)
              refine And.intro ?_ ?_
              · intro L_ wr hX_ hs_ hf_ hd_
                obtain ⟨v5, e5, r5⟩ := hd_ 5 rfl
                obtain ⟨a5, c5, rfl, hb5⟩ := r5
                obtain ⟨v3, e3, r3⟩ := hd_ 3 rfl
                obtain rfl : (.bool false : Value) = v3 := Eq.symm r3
                refine W.step [(106, _), (104, _)] (Sub.cons (e5 _ rfl) (Sub.cons (e3 _ rfl) (Sub.refl _))) ?_
                refine W.wants rfl rfl rfl rfl ?_
                refine W.bytesStr Try.underlying27 Try.underlying5 Try.underlying9 rfl hb5 rfl ?_
                refine W.nil ?_
                exact At.step (Ext.refl _) rfl
              refine And.intro ?_ ?_
              · intro L_ wr hX_ hs_ hf_ hd_
                obtain ⟨v3, e3, r3⟩ := hd_ 3 rfl
                obtain rfl : (.bool false : Value) = v3 := Eq.symm r3
                refine W.step [(0, _), (104, _)] (Sub.cons (hs_ _ _ rfl) (Sub.cons (e3 _ rfl) (Sub.refl _))) ?_
                refine W.wants rfl rfl rfl rfl ?_
                refine W.move rfl rfl ?_
                refine W.nil ?_
                exact At.step (Ext.refl _) rfl
              refine And.intro ?_ ?_
              · intro L_ wr hX_ hs_ hf_ hd_
                obtain ⟨v7, e7, r7⟩ := hd_ 7 rfl
                obtain rfl : (.slice ao b.length c : Value) = v7 := Eq.symm r7
                obtain ⟨v3, e3, r3⟩ := hd_ 3 rfl
                obtain rfl : (.bool false : Value) = v3 := Eq.symm r3
                refine W.step [(108, _), (104, _)] (Sub.cons (e7 _ rfl) (Sub.cons (e3 _ rfl) (Sub.refl _))) ?_
                refine W.wants rfl rfl rfl rfl ?_
                refine W.bytesStr Try.underlying27 Try.underlying5 Try.underlying9 rfl (hb99.ext hX_) rfl ?_
                refine W.nil ?_
                exact At.step (Ext.refl _) rfl
              refine And.intro ?_ ?_
              · intro L_ wr hX_ hs_ hf_ hd_
                obtain ⟨v6, e6, r6⟩ := hd_ 6 rfl
                obtain rfl : (strV b : Value) = v6 := Eq.symm r6
                obtain ⟨v8, e8, r8⟩ := hd_ 8 rfl
                obtain rfl : (strV b : Value) = v8 := Eq.symm r8
                obtain ⟨v3, e3, r3⟩ := hd_ 3 rfl
                obtain rfl : (.bool false : Value) = v3 := Eq.symm r3
                refine W.step [(107, _), (109, _), (104, _)] (Sub.cons (e6 _ rfl) (Sub.cons (e8 _ rfl) (Sub.cons (e3 _ rfl) (Sub.refl _)))) ?_
                refine W.wants rfl rfl rfl rfl ?_
                refine W.eqlStr rfl rfl rfl ?_
                refine W.eqv (bT (rfl)) ?_
                refine W.nil ?_
                exact At.step (Ext.refl _) rfl
              refine And.intro ?_ ?_
              · intro L_ wr hX_ hs_ hf_ hd_
                obtain ⟨v3, e3, r3⟩ := hd_ 3 rfl
                obtain rfl : (.bool false : Value) = v3 := Eq.symm r3
                obtain ⟨v9, e9, r9⟩ := hd_ 9 rfl
                obtain rfl : (.bool true : Value) = v9 := Eq.symm r9
                refine W.step [(104, _), (110, _)] (Sub.cons (e3 _ rfl) (Sub.cons (e9 _ rfl) (Sub.refl _))) ?_
                refine W.pickF rfl rfl rfl ?_
                refine W.nil ?_
                exact At.step (Ext.refl _) rfl
              refine And.intro ?_ ?_
              · intro L_ wr hX_ hs_ hf_ hd_
                obtain ⟨v10, e10, r10⟩ := hd_ 10 rfl
                obtain rfl : (.bool true : Value) = v10 := Eq.symm r10
                refine W.step [(111, _)] (Sub.cons (e10 _ rfl) (Sub.refl _)) ?_
                refine W.assign rfl rfl ?_
                refine W.nil ?_
                exact At.step (Ext.refl _) rfl
              exact trivial
            · intro L_ wr hX20 hs_ hv_
              obtain ⟨v11, e11, r11⟩ := hv_ 11 (by decide)
              obtain rfl : (.bool true : Value) = v11 := Eq.symm r11
              refine W.weaken (l' := [(2, _), (0, _), (16, _), (17, _)]) (Sub.cons (e11 _ rfl) (Sub.cons (hs_ _ _ rfl) (Sub.cons (hs_ _ _ rfl) (Sub.cons (hs_ _ _ rfl) (Sub.nil))))) ?_
              refine W.nil ?_
              refine At.thenCode ?_
              refine C.ret ?_
              refine At.ret1 Try.results9 rfl ?_
              first
              | exact ⟨rfl, Ext.below (hX99a.ext hX20)⟩
              | exact ⟨rfl, Ext.below hX18⟩
          · refine C.regionAny 12 ((fun v w => v = .int .i64 (noteRE b : Int)) :: (fun v w => v = .int .i64 (noteRE b : Int)) :: (fun v w => v = .bool true) :: (fun v w => v = .bool true) :: (fun v w => v = undef) :: (fun v w => v = undef) :: (fun v w => v = undef) :: (fun v w => v = undef) :: (fun v w => v = undef) :: (fun v w => v = undef) :: (fun v w => v = .bool true) :: (fun v w => v = .bool true) :: []) [(0, .slice ao b.length c), (16, .pointer (some ⟨g16, 0, none⟩)), (17, .int .i64 (noteRE b : Int))] [] (Sub.cons (rfl) (Sub.cons (rfl) (Sub.cons (rfl) (Sub.nil)))) (Sub.nil) (Sub.cons (rfl) (Sub.cons (rfl) (Sub.cons (rfl) (Sub.nil)))) (by kernel_rfl) rfl rfl rfl (And.intro (fun _ _ _ h _ => h) (And.intro (fun _ _ _ h _ => h) (And.intro (fun _ _ _ h _ => h) (And.intro (fun _ _ _ h _ => h) (And.intro (fun _ _ _ h _ => h) (And.intro (fun _ _ _ h _ => h) (And.intro (fun _ _ _ h _ => h) (And.intro (fun _ _ _ h _ => h) (And.intro (fun _ _ _ h _ => h) (And.intro (fun _ _ _ h _ => h) (And.intro (fun _ _ _ h _ => h) (And.intro (fun _ _ _ h _ => h) (trivial))))))))))))) ?_ ?_
            · refine And.intro ?_ ?_
              · intro L_ wr hX_ hs_ hf_ hd_
                refine W.step [(17, _)] (Sub.cons (hs_ _ _ rfl) (Sub.refl _)) ?_
                refine W.move rfl rfl ?_
                refine W.nil ?_
                exact At.step (Ext.refl _) rfl
              refine And.intro ?_ ?_
              · intro L_ wr hX_ hs_ hf_ hd_
                obtain ⟨v0, e0, r0⟩ := hd_ 0 rfl
                obtain rfl : (.int .i64 (noteRE b : Int) : Value) = v0 := Eq.symm r0
                refine W.step [(101, _)] (Sub.cons (e0 _ rfl) (Sub.refl _)) ?_
                refine W.call Try.call14 rfl (Law11.num_ok _ _) rfl ?_
                rintro v102 w102 ⟨rfl, rfl⟩
                refine W.nil ?_
                exact At.step (Ext.refl _) rfl
              refine And.intro ?_ ?_
              · intro L_ wr hX_ hs_ hf_ hd_
                obtain ⟨v1, e1, r1⟩ := hd_ 1 rfl
                obtain rfl : (.int .i64 (noteRE b : Int) : Value) = v1 := Eq.symm r1
                refine W.step [(102, _)] (Sub.cons (e1 _ rfl) (Sub.refl _)) ?_
                refine W.neqI rfl rfl rfl ?_
                refine W.eqv (bT (by omega)) ?_
                refine W.nil ?_
                exact At.step (Ext.refl _) rfl
              refine And.intro ?_ ?_
              · intro L_ wr hX_ hs_ hf_ hd_
                obtain ⟨v2, e2, r2⟩ := hd_ 2 rfl
                obtain rfl : (.bool true : Value) = v2 := Eq.symm r2
                refine W.step [(103, _)] (Sub.cons (e2 _ rfl) (Sub.refl _)) ?_
                refine W.move rfl rfl ?_
                refine W.nil ?_
                exact At.step (Ext.refl _) rfl
              refine And.intro ?_ ?_
              · intro L_ wr hX_ hs_ hf_ hd_
                obtain ⟨v3, e3, r3⟩ := hd_ 3 rfl
                obtain rfl : (.bool true : Value) = v3 := Eq.symm r3
                refine W.step [(104, _)] (Sub.cons (e3 _ rfl) (Sub.refl _)) ?_
                refine W.skips rfl rfl rfl rfl rfl rfl ?_
                refine W.nil ?_
                exact At.step (Ext.refl _) rfl
              refine And.intro ?_ ?_
              · intro L_ wr hX_ hs_ hf_ hd_
                obtain ⟨v3, e3, r3⟩ := hd_ 3 rfl
                obtain rfl : (.bool true : Value) = v3 := Eq.symm r3
                refine W.step [(104, _)] (Sub.cons (e3 _ rfl) (Sub.refl _)) ?_
                refine W.skips rfl rfl rfl rfl rfl rfl ?_
                refine W.nil ?_
                exact At.step (Ext.refl _) rfl
              refine And.intro ?_ ?_
              · intro L_ wr hX_ hs_ hf_ hd_
                obtain ⟨v3, e3, r3⟩ := hd_ 3 rfl
                obtain rfl : (.bool true : Value) = v3 := Eq.symm r3
                refine W.step [(104, _)] (Sub.cons (e3 _ rfl) (Sub.refl _)) ?_
                refine W.skips rfl rfl rfl rfl rfl rfl ?_
                refine W.nil ?_
                exact At.step (Ext.refl _) rfl
              refine And.intro ?_ ?_
              · intro L_ wr hX_ hs_ hf_ hd_
                obtain ⟨v3, e3, r3⟩ := hd_ 3 rfl
                obtain rfl : (.bool true : Value) = v3 := Eq.symm r3
                refine W.step [(104, _)] (Sub.cons (e3 _ rfl) (Sub.refl _)) ?_
                refine W.skips rfl rfl rfl rfl rfl rfl ?_
                refine W.nil ?_
                exact At.step (Ext.refl _) rfl
              refine And.intro ?_ ?_
              · intro L_ wr hX_ hs_ hf_ hd_
                obtain ⟨v3, e3, r3⟩ := hd_ 3 rfl
                obtain rfl : (.bool true : Value) = v3 := Eq.symm r3
                refine W.step [(104, _)] (Sub.cons (e3 _ rfl) (Sub.refl _)) ?_
                refine W.skips rfl rfl rfl rfl rfl rfl ?_
                refine W.nil ?_
                exact At.step (Ext.refl _) rfl
              refine And.intro ?_ ?_
              · intro L_ wr hX_ hs_ hf_ hd_
                obtain ⟨v3, e3, r3⟩ := hd_ 3 rfl
                obtain rfl : (.bool true : Value) = v3 := Eq.symm r3
                refine W.step [(104, _)] (Sub.cons (e3 _ rfl) (Sub.refl _)) ?_
                refine W.skips rfl rfl rfl rfl rfl rfl ?_
                refine W.nil ?_
                exact At.step (Ext.refl _) rfl
              refine And.intro ?_ ?_
              · intro L_ wr hX_ hs_ hf_ hd_
                obtain ⟨v3, e3, r3⟩ := hd_ 3 rfl
                obtain rfl : (.bool true : Value) = v3 := Eq.symm r3
                obtain ⟨v9, e9, r9⟩ := hd_ 9 rfl
                obtain rfl : (undef : Value) = v9 := Eq.symm r9
                refine W.step [(104, _), (110, _)] (Sub.cons (e3 _ rfl) (Sub.cons (e9 _ rfl) (Sub.refl _))) ?_
                refine W.pickT rfl rfl rfl ?_
                refine W.nil ?_
                exact At.step (Ext.refl _) rfl
              refine And.intro ?_ ?_
              · intro L_ wr hX_ hs_ hf_ hd_
                obtain ⟨v10, e10, r10⟩ := hd_ 10 rfl
                obtain rfl : (.bool true : Value) = v10 := Eq.symm r10
                refine W.step [(111, _)] (Sub.cons (e10 _ rfl) (Sub.refl _)) ?_
                refine W.assign rfl rfl ?_
                refine W.nil ?_
                exact At.step (Ext.refl _) rfl
              exact trivial
            · intro L_ wr hX20 hs_ hv_
              obtain ⟨v11, e11, r11⟩ := hv_ 11 (by decide)
              obtain rfl : (.bool true : Value) = v11 := Eq.symm r11
              refine W.weaken (l' := [(2, _), (0, _), (16, _), (17, _)]) (Sub.cons (e11 _ rfl) (Sub.cons (hs_ _ _ rfl) (Sub.cons (hs_ _ _ rfl) (Sub.cons (hs_ _ _ rfl) (Sub.nil))))) ?_
              refine W.nil ?_
              refine At.thenCode ?_
              refine C.ret ?_
              refine At.ret1 Try.results9 rfl ?_
              first
              | exact ⟨rfl, Ext.below (hX99a.ext hX20)⟩
              | exact ⟨rfl, Ext.below hX18⟩
        · have hbC := hb76
          have hXC := hX76a
          refine C.skip ?_
          refine At.thenCode ?_
          refine C.seq ?_
          refine C.region ?_
          refine W.move rfl rfl ?_
          refine W.call Try.call12 rfl (Cod.ReadNote_ok ao c b _ hbC hlen) rfl ?_
          rintro v98 w98 ⟨rfl, hX98⟩
          obtain ⟨nr, hnr⟩ : ∃ nr, nr = noteR b := ⟨_, rfl⟩
          have hng := note_again b
          have hno := noteR_ok b
          rw [← hnr] at hng hno ⊢
          have hnl := noteC_length hno
          refine W.move rfl rfl ?_
          refine W.extract rfl rfl rfl ?_
          refine W.extract rfl rfl rfl ?_
          refine W.alloc (z := .agg zeroNoteC.toArray) zeroNoteC (by kernel_rfl) rfl rfl ?_
          intro g16 w16 hg16 hX16 hB16
          refine W.storeA (noteC nr) rfl rfl hB16 (by rw [hnl]; rfl) (by rw [hnl]; kernel_rfl) (noteC_one _) ?_
          intro w99 hc99 hB99
          have hX99 : Ext w98 w99 := hX16.news hc99 fun k hk => Or.inr (by omega)
          have hb99 := (hbC.ext hX98).ext hX99
          have hX99a := (hXC.ext hX98).ext hX99
          refine W.assign rfl rfl ?_
          refine W.nil ?_
          refine At.thenCode ?_
          refine C.seq ?_
          by_cases hz : noteRE b = 0
          · refine C.regionAny 12 ((fun v w => v = .int .i64 (noteRE b : Int)) :: (fun v w => v = .int .i64 (noteRE b : Int)) :: (fun v w => v = .bool false) :: (fun v w => v = .bool false) :: (fun v w => v = .agg (noteC nr).toArray) :: (fun v w => Rep w v b) :: (fun v w => v = strV b) :: (fun v w => v = .slice ao b.length c) :: (fun v w => v = strV b) :: (fun v w => v = .bool true) :: (fun v w => v = .bool true) :: (fun v w => v = .bool true) :: []) [(0, .slice ao b.length c), (16, .pointer (some ⟨g16, 0, none⟩)), (17, .int .i64 (noteRE b : Int))] [] (Sub.cons (rfl) (Sub.cons (rfl) (Sub.cons (rfl) (Sub.nil)))) (Sub.nil) (Sub.cons (rfl) (Sub.cons (rfl) (Sub.cons (rfl) (Sub.nil)))) (by kernel_rfl) rfl rfl rfl (And.intro (fun _ _ _ h _ => h) (And.intro (fun _ _ _ h _ => h) (And.intro (fun _ _ _ h _ => h) (And.intro (fun _ _ _ h _ => h) (And.intro (fun _ _ _ h _ => h) (And.intro (fun _ _ _ h g => h.ext g) (And.intro (fun _ _ _ h _ => h) (And.intro (fun _ _ _ h _ => h) (And.intro (fun _ _ _ h _ => h) (And.intro (fun _ _ _ h _ => h) (And.intro (fun _ _ _ h _ => h) (And.intro (fun _ _ _ h _ => h) (trivial))))))))))))) ?_ ?_
            · refine And.intro ?_ ?_
              · intro L_ wr hX_ hs_ hf_ hd_
                refine W.step [(17, _)] (Sub.cons (hs_ _ _ rfl) (Sub.refl _)) ?_
                refine W.move rfl rfl ?_
                refine W.nil ?_
                exact At.step (Ext.refl _) rfl
              refine And.intro ?_ ?_
              · intro L_ wr hX_ hs_ hf_ hd_
                obtain ⟨v0, e0, r0⟩ := hd_ 0 rfl
                obtain rfl : (.int .i64 (noteRE b : Int) : Value) = v0 := Eq.symm r0
                refine W.step [(101, _)] (Sub.cons (e0 _ rfl) (Sub.refl _)) ?_
                refine W.call Try.call14 rfl (Law11.num_ok _ _) rfl ?_
                rintro v102 w102 ⟨rfl, rfl⟩
                refine W.nil ?_
                exact At.step (Ext.refl _) rfl
              refine And.intro ?_ ?_
              · intro L_ wr hX_ hs_ hf_ hd_
                obtain ⟨v1, e1, r1⟩ := hd_ 1 rfl
                obtain rfl : (.int .i64 (noteRE b : Int) : Value) = v1 := Eq.symm r1
                refine W.step [(102, _)] (Sub.cons (e1 _ rfl) (Sub.refl _)) ?_
                refine W.neqI rfl rfl rfl ?_
                refine W.eqv (bF (by omega)) ?_
                refine W.nil ?_
                exact At.step (Ext.refl _) rfl
              refine And.intro ?_ ?_
              · intro L_ wr hX_ hs_ hf_ hd_
                obtain ⟨v2, e2, r2⟩ := hd_ 2 rfl
                obtain rfl : (.bool false : Value) = v2 := Eq.symm r2
                refine W.step [(103, _)] (Sub.cons (e2 _ rfl) (Sub.refl _)) ?_
                refine W.move rfl rfl ?_
                refine W.nil ?_
                exact At.step (Ext.refl _) rfl
              refine And.intro ?_ ?_
              · intro L_ wr hX_ hs_ hf_ hd_
                obtain ⟨v3, e3, r3⟩ := hd_ 3 rfl
                obtain rfl : (.bool false : Value) = v3 := Eq.symm r3
                refine W.step [(16, _), (104, _)] (Sub.cons (hs_ _ _ rfl) (Sub.cons (e3 _ rfl) (Sub.refl _))) ?_
                refine W.wants rfl rfl rfl rfl ?_
                refine W.loadA rfl ((hB99.ext hX_).cells (o := 0)) Try.underlying25 rfl (by rw [List.drop_zero, hnl]; kernel_rfl) rfl ?_
                rw [List.drop_zero]
                refine W.nil ?_
                exact At.step (Ext.refl _) rfl
              refine And.intro ?_ ?_
              · intro L_ wr hX_ hs_ hf_ hd_
                obtain ⟨v4, e4, r4⟩ := hd_ 4 rfl
                obtain rfl : (.agg (noteC nr).toArray : Value) = v4 := Eq.symm r4
                obtain ⟨v3, e3, r3⟩ := hd_ 3 rfl
                obtain rfl : (.bool false : Value) = v3 := Eq.symm r3
                refine W.step [(105, _), (104, _)] (Sub.cons (e4 _ rfl) (Sub.cons (e3 _ rfl) (Sub.refl _))) ?_
                refine W.wants rfl rfl rfl rfl ?_
                refine W.call Try.call11 rfl (Cod.Note_ok nr _ hno) rfl ?_
                rintro v106 w106 ⟨ao106, c106, rfl, hN106, hX106⟩
                refine W.nil ?_
                exact At.step hX106 (by have := hng hz; rw [this] at hN106; exact ⟨ao106, c106, by rw [this], hN106.1⟩)
              refine And.intro ?_ ?_
              · intro L_ wr hX_ hs_ hf_ hd_
                obtain ⟨v5, e5, r5⟩ := hd_ 5 rfl
                obtain ⟨a5, c5, rfl, hb5⟩ := r5
                obtain ⟨v3, e3, r3⟩ := hd_ 3 rfl
                obtain rfl : (.bool false : Value) = v3 := Eq.symm r3
                refine W.step [(106, _), (104, _)] (Sub.cons (e5 _ rfl) (Sub.cons (e3 _ rfl) (Sub.refl _))) ?_
                refine W.wants rfl rfl rfl rfl ?_
                refine W.bytesStr Try.underlying27 Try.underlying5 Try.underlying9 rfl hb5 rfl ?_
                refine W.nil ?_
                exact At.step (Ext.refl _) rfl
              refine And.intro ?_ ?_
              · intro L_ wr hX_ hs_ hf_ hd_
                obtain ⟨v3, e3, r3⟩ := hd_ 3 rfl
                obtain rfl : (.bool false : Value) = v3 := Eq.symm r3
                refine W.step [(0, _), (104, _)] (Sub.cons (hs_ _ _ rfl) (Sub.cons (e3 _ rfl) (Sub.refl _))) ?_
                refine W.wants rfl rfl rfl rfl ?_
                refine W.move rfl rfl ?_
                refine W.nil ?_
                exact At.step (Ext.refl _) rfl
              refine And.intro ?_ ?_
              · intro L_ wr hX_ hs_ hf_ hd_
                obtain ⟨v7, e7, r7⟩ := hd_ 7 rfl
                obtain rfl : (.slice ao b.length c : Value) = v7 := Eq.symm r7
                obtain ⟨v3, e3, r3⟩ := hd_ 3 rfl
                obtain rfl : (.bool false : Value) = v3 := Eq.symm r3
                refine W.step [(108, _), (104, _)] (Sub.cons (e7 _ rfl) (Sub.cons (e3 _ rfl) (Sub.refl _))) ?_
                refine W.wants rfl rfl rfl rfl ?_
                refine W.bytesStr Try.underlying27 Try.underlying5 Try.underlying9 rfl (hb99.ext hX_) rfl ?_
                refine W.nil ?_
                exact At.step (Ext.refl _) rfl
              refine And.intro ?_ ?_
              · intro L_ wr hX_ hs_ hf_ hd_
                obtain ⟨v6, e6, r6⟩ := hd_ 6 rfl
                obtain rfl : (strV b : Value) = v6 := Eq.symm r6
                obtain ⟨v8, e8, r8⟩ := hd_ 8 rfl
                obtain rfl : (strV b : Value) = v8 := Eq.symm r8
                obtain ⟨v3, e3, r3⟩ := hd_ 3 rfl
                obtain rfl : (.bool false : Value) = v3 := Eq.symm r3
                refine W.step [(107, _), (109, _), (104, _)] (Sub.cons (e6 _ rfl) (Sub.cons (e8 _ rfl) (Sub.cons (e3 _ rfl) (Sub.refl _)))) ?_
                refine W.wants rfl rfl rfl rfl ?_
                refine W.eqlStr rfl rfl rfl ?_
                refine W.eqv (bT (rfl)) ?_
                refine W.nil ?_
                exact At.step (Ext.refl _) rfl
              refine And.intro ?_ ?_
              · intro L_ wr hX_ hs_ hf_ hd_
                obtain ⟨v3, e3, r3⟩ := hd_ 3 rfl
                obtain rfl : (.bool false : Value) = v3 := Eq.symm r3
                obtain ⟨v9, e9, r9⟩ := hd_ 9 rfl
                obtain rfl : (.bool true : Value) = v9 := Eq.symm r9
                refine W.step [(104, _), (110, _)] (Sub.cons (e3 _ rfl) (Sub.cons (e9 _ rfl) (Sub.refl _))) ?_
                refine W.pickF rfl rfl rfl ?_
                refine W.nil ?_
                exact At.step (Ext.refl _) rfl
              refine And.intro ?_ ?_
              · intro L_ wr hX_ hs_ hf_ hd_
                obtain ⟨v10, e10, r10⟩ := hd_ 10 rfl
                obtain rfl : (.bool true : Value) = v10 := Eq.symm r10
                refine W.step [(111, _)] (Sub.cons (e10 _ rfl) (Sub.refl _)) ?_
                refine W.assign rfl rfl ?_
                refine W.nil ?_
                exact At.step (Ext.refl _) rfl
              exact trivial
            · intro L_ wr hX20 hs_ hv_
              obtain ⟨v11, e11, r11⟩ := hv_ 11 (by decide)
              obtain rfl : (.bool true : Value) = v11 := Eq.symm r11
              refine W.weaken (l' := [(2, _), (0, _), (16, _), (17, _)]) (Sub.cons (e11 _ rfl) (Sub.cons (hs_ _ _ rfl) (Sub.cons (hs_ _ _ rfl) (Sub.cons (hs_ _ _ rfl) (Sub.nil))))) ?_
              refine W.nil ?_
              refine At.thenCode ?_
              refine C.ret ?_
              refine At.ret1 Try.results9 rfl ?_
              first
              | exact ⟨rfl, Ext.below (hX99a.ext hX20)⟩
              | exact ⟨rfl, Ext.below hX18⟩
          · refine C.regionAny 12 ((fun v w => v = .int .i64 (noteRE b : Int)) :: (fun v w => v = .int .i64 (noteRE b : Int)) :: (fun v w => v = .bool true) :: (fun v w => v = .bool true) :: (fun v w => v = undef) :: (fun v w => v = undef) :: (fun v w => v = undef) :: (fun v w => v = undef) :: (fun v w => v = undef) :: (fun v w => v = undef) :: (fun v w => v = .bool true) :: (fun v w => v = .bool true) :: []) [(0, .slice ao b.length c), (16, .pointer (some ⟨g16, 0, none⟩)), (17, .int .i64 (noteRE b : Int))] [] (Sub.cons (rfl) (Sub.cons (rfl) (Sub.cons (rfl) (Sub.nil)))) (Sub.nil) (Sub.cons (rfl) (Sub.cons (rfl) (Sub.cons (rfl) (Sub.nil)))) (by kernel_rfl) rfl rfl rfl (And.intro (fun _ _ _ h _ => h) (And.intro (fun _ _ _ h _ => h) (And.intro (fun _ _ _ h _ => h) (And.intro (fun _ _ _ h _ => h) (And.intro (fun _ _ _ h _ => h) (And.intro (fun _ _ _ h _ => h) (And.intro (fun _ _ _ h _ => h) (And.intro (fun _ _ _ h _ => h) (And.intro (fun _ _ _ h _ => h) (And.intro (fun _ _ _ h _ => h) (And.intro (fun _ _ _ h _ => h) (And.intro (fun _ _ _ h _ => h) (trivial))))))))))))) ?_ ?_
            · refine And.intro ?_ ?_
              · intro L_ wr hX_ hs_ hf_ hd_
                refine W.step [(17, _)] (Sub.cons (hs_ _ _ rfl) (Sub.refl _)) ?_
                refine W.move rfl rfl ?_
                refine W.nil ?_
                exact At.step (Ext.refl _) rfl
              refine And.intro ?_ ?_
              · intro L_ wr hX_ hs_ hf_ hd_
                obtain ⟨v0, e0, r0⟩ := hd_ 0 rfl
                obtain rfl : (.int .i64 (noteRE b : Int) : Value) = v0 := Eq.symm r0
                refine W.step [(101, _)] (Sub.cons (e0 _ rfl) (Sub.refl _)) ?_
                refine W.call Try.call14 rfl (Law11.num_ok _ _) rfl ?_
                rintro v102 w102 ⟨rfl, rfl⟩
                refine W.nil ?_
                exact At.step (Ext.refl _) rfl
              refine And.intro ?_ ?_
              · intro L_ wr hX_ hs_ hf_ hd_
                obtain ⟨v1, e1, r1⟩ := hd_ 1 rfl
                obtain rfl : (.int .i64 (noteRE b : Int) : Value) = v1 := Eq.symm r1
                refine W.step [(102, _)] (Sub.cons (e1 _ rfl) (Sub.refl _)) ?_
                refine W.neqI rfl rfl rfl ?_
                refine W.eqv (bT (by omega)) ?_
                refine W.nil ?_
                exact At.step (Ext.refl _) rfl
              refine And.intro ?_ ?_
              · intro L_ wr hX_ hs_ hf_ hd_
                obtain ⟨v2, e2, r2⟩ := hd_ 2 rfl
                obtain rfl : (.bool true : Value) = v2 := Eq.symm r2
                refine W.step [(103, _)] (Sub.cons (e2 _ rfl) (Sub.refl _)) ?_
                refine W.move rfl rfl ?_
                refine W.nil ?_
                exact At.step (Ext.refl _) rfl
              refine And.intro ?_ ?_
              · intro L_ wr hX_ hs_ hf_ hd_
                obtain ⟨v3, e3, r3⟩ := hd_ 3 rfl
                obtain rfl : (.bool true : Value) = v3 := Eq.symm r3
                refine W.step [(104, _)] (Sub.cons (e3 _ rfl) (Sub.refl _)) ?_
                refine W.skips rfl rfl rfl rfl rfl rfl ?_
                refine W.nil ?_
                exact At.step (Ext.refl _) rfl
              refine And.intro ?_ ?_
              · intro L_ wr hX_ hs_ hf_ hd_
                obtain ⟨v3, e3, r3⟩ := hd_ 3 rfl
                obtain rfl : (.bool true : Value) = v3 := Eq.symm r3
                refine W.step [(104, _)] (Sub.cons (e3 _ rfl) (Sub.refl _)) ?_
                refine W.skips rfl rfl rfl rfl rfl rfl ?_
                refine W.nil ?_
                exact At.step (Ext.refl _) rfl
              refine And.intro ?_ ?_
              · intro L_ wr hX_ hs_ hf_ hd_
                obtain ⟨v3, e3, r3⟩ := hd_ 3 rfl
                obtain rfl : (.bool true : Value) = v3 := Eq.symm r3
                refine W.step [(104, _)] (Sub.cons (e3 _ rfl) (Sub.refl _)) ?_
                refine W.skips rfl rfl rfl rfl rfl rfl ?_
                refine W.nil ?_
                exact At.step (Ext.refl _) rfl
              refine And.intro ?_ ?_
              · intro L_ wr hX_ hs_ hf_ hd_
                obtain ⟨v3, e3, r3⟩ := hd_ 3 rfl
                obtain rfl : (.bool true : Value) = v3 := Eq.symm r3
                refine W.step [(104, _)] (Sub.cons (e3 _ rfl) (Sub.refl _)) ?_
                refine W.skips rfl rfl rfl rfl rfl rfl ?_
                refine W.nil ?_
                exact At.step (Ext.refl _) rfl
              refine And.intro ?_ ?_
              · intro L_ wr hX_ hs_ hf_ hd_
                obtain ⟨v3, e3, r3⟩ := hd_ 3 rfl
                obtain rfl : (.bool true : Value) = v3 := Eq.symm r3
                refine W.step [(104, _)] (Sub.cons (e3 _ rfl) (Sub.refl _)) ?_
                refine W.skips rfl rfl rfl rfl rfl rfl ?_
                refine W.nil ?_
                exact At.step (Ext.refl _) rfl
              refine And.intro ?_ ?_
              · intro L_ wr hX_ hs_ hf_ hd_
                obtain ⟨v3, e3, r3⟩ := hd_ 3 rfl
                obtain rfl : (.bool true : Value) = v3 := Eq.symm r3
                refine W.step [(104, _)] (Sub.cons (e3 _ rfl) (Sub.refl _)) ?_
                refine W.skips rfl rfl rfl rfl rfl rfl ?_
                refine W.nil ?_
                exact At.step (Ext.refl _) rfl
              refine And.intro ?_ ?_
              · intro L_ wr hX_ hs_ hf_ hd_
                obtain ⟨v3, e3, r3⟩ := hd_ 3 rfl
                obtain rfl : (.bool true : Value) = v3 := Eq.symm r3
                obtain ⟨v9, e9, r9⟩ := hd_ 9 rfl
                obtain rfl : (undef : Value) = v9 := Eq.symm r9
                refine W.step [(104, _), (110, _)] (Sub.cons (e3 _ rfl) (Sub.cons (e9 _ rfl) (Sub.refl _))) ?_
                refine W.pickT rfl rfl rfl ?_
                refine W.nil ?_
                exact At.step (Ext.refl _) rfl
              refine And.intro ?_ ?_
              · intro L_ wr hX_ hs_ hf_ hd_
                obtain ⟨v10, e10, r10⟩ := hd_ 10 rfl
                obtain rfl : (.bool true : Value) = v10 := Eq.symm r10
                refine W.step [(111, _)] (Sub.cons (e10 _ rfl) (Sub.refl _)) ?_
                refine W.assign rfl rfl ?_
                refine W.nil ?_
                exact At.step (Ext.refl _) rfl
              exact trivial
            · intro L_ wr hX20 hs_ hv_
              obtain ⟨v11, e11, r11⟩ := hv_ 11 (by decide)
              obtain rfl : (.bool true : Value) = v11 := Eq.symm r11
              refine W.weaken (l' := [(2, _), (0, _), (16, _), (17, _)]) (Sub.cons (e11 _ rfl) (Sub.cons (hs_ _ _ rfl) (Sub.cons (hs_ _ _ rfl) (Sub.cons (hs_ _ _ rfl) (Sub.nil))))) ?_
              refine W.nil ?_
              refine At.thenCode ?_
              refine C.ret ?_
              refine At.ret1 Try.results9 rfl ?_
              first
              | exact ⟨rfl, Ext.below (hX99a.ext hX20)⟩
              | exact ⟨rfl, Ext.below hX18⟩
    · have hbA := hb29
      have hXA := hX29a
      refine C.skip ?_
      refine At.thenCode ?_
      refine C.seq ?_
      refine C.region ?_
      refine W.move rfl rfl ?_
      refine W.call Try.call17 rfl (Cod.ReadSubmission_ok ao c b _ hbA hlen) rfl ?_
      rintro v52 w52 ⟨vb52, rfl, hY52, hX52⟩
      obtain ⟨sr, hsr⟩ : ∃ sr, sr = subR b := ⟨_, rfl⟩
      have hsg := sub_again b
      have hso := subR_ok b
      rw [← hsr] at hY52 hsg hso ⊢
      have hv52 := byt_one hY52
      have hcl := subC_length hso vb52
      refine W.move rfl rfl ?_
      refine W.extract rfl rfl rfl ?_
      refine W.extract rfl rfl rfl ?_
      refine W.alloc (z := .agg zeroSubC.toArray) zeroSubC (by kernel_rfl) rfl rfl ?_
      intro g8 w8 hg8 hX8 hB8
      refine W.storeA (subC sr vb52) rfl rfl hB8 (by rw [hcl]; rfl) (by rw [hcl]; kernel_rfl) (subC_one _ hv52) ?_
      intro w53 hc53 hB53
      have hX53 : Ext w52 w53 := hX8.news hc53 fun k hk => Or.inr (by omega)
      have hY53 := RdOk.ext rByt hY52 hX53
      have hb53 := (hbA.ext hX52).ext hX53
      have hX53a := (hXA.ext hX52).ext hX53
      refine W.assign rfl rfl ?_
      refine W.nil ?_
      refine At.thenCode ?_
      refine C.seq ?_
      refine C.seq ?_
      refine C.region ?_
      refine W.move rfl rfl ?_
      refine W.call Try.call14 rfl (Law11.num_ok _ _) rfl ?_
      rintro v56 w56 ⟨rfl, rfl⟩
      refine W.eqlI rfl rfl rfl ?_
      refine W.nil ?_
      refine At.thenCode ?_
      first | refine C.condD rfl (fun c57 => ?_) (fun c57 => ?_) | refine C.cond rfl (fun c57 => ?_) (fun c57 => ?_)
      · have h1 : subRE b = 0 := by omega
        obtain ⟨m1, m2⟩ := hsg h1
        have m3 := sub_small m1
        refine C.seq ?_
        refine C.region ?_
        refine W.loadA rfl (hB53.cells (o := 0)) Try.underlying40 rfl (by rw [List.drop_zero, hcl]; kernel_rfl) rfl ?_
        rw [List.drop_zero]
        have hYF : RByt (fun _ => False) w53 [vb52] sr.box := rByt.new hY53 fun k h _ => h.elim
        refine W.call Try.call15 rfl (Cod.Submission_ok sr vb52 _ ⟨vb52, rfl, hYF, hso⟩ hYF hso (by omega)) rfl ?_
        rintro v60 w60 ⟨ao60, c60, rfl, hN60, hX60⟩
        rw [m1, m2] at *
        refine W.move rfl rfl ?_
        refine W.extract rfl rfl rfl ?_
        refine W.extract rfl rfl rfl ?_
        refine W.assign rfl rfl ?_
        refine W.assign rfl rfl ?_
        refine W.nil ?_
        refine At.thenCode ?_
        refine C.seq ?_
        refine C.region ?_
        refine W.move rfl rfl ?_
        refine W.call Try.call14 rfl (Law11.num_ok _ _) rfl ?_
        rintro v64 w64 ⟨rfl, rfl⟩
        refine W.neqI rfl rfl rfl ?_
        refine W.eqv (bF (fun h => h rfl)) ?_
        refine W.move rfl rfl ?_
        refine W.wants rfl rfl rfl rfl ?_
        refine W.move rfl rfl ?_
        refine W.wants rfl rfl rfl rfl ?_
        refine W.bytesStr Try.underlying27 Try.underlying5 Try.underlying9 rfl hN60.1 rfl ?_
        refine W.wants rfl rfl rfl rfl ?_
        refine W.move rfl rfl ?_
        refine W.wants rfl rfl rfl rfl ?_
        refine W.bytesStr Try.underlying27 Try.underlying5 Try.underlying9 rfl (hb53.ext hX60) rfl ?_
        refine W.wants rfl rfl rfl rfl ?_
        refine W.neqStr rfl rfl rfl ?_
        refine W.eqv (bF (fun h => h rfl)) ?_
        refine W.pickF rfl rfl rfl ?_
        refine W.nil ?_
        refine At.thenCode ?_
        refine C.condF rfl ?_
        -- known too
        have hbB := hb53.ext hX60
        have hXB := hX53a.ext hX60
        refine C.skip ?_
        refine At.thenCode ?_
        refine C.seq ?_
        refine C.region ?_
        refine W.move rfl rfl ?_
        refine W.call Try.call23 rfl (Cod.ReadBatch_ok ao c b _ hbB hlen) rfl ?_
        rintro v75 w75 ⟨vi75, vl75, rfl, hI75, hL75, hX75⟩
        obtain ⟨xr, hxr⟩ : ∃ xr, xr = batR b := ⟨_, rfl⟩
        have hxg := bat_again b
        have hxo := batR_ok b
        rw [← hxr] at hI75 hL75 hxg hxo ⊢
        have hvi := rNums.one hI75 vi75 (by simp)
        have hvl := (rSl 33 rLet).one hL75 vl75 (by simp)
        refine W.move rfl rfl ?_
        refine W.extract rfl rfl rfl ?_
        refine W.extract rfl rfl rfl ?_
        refine W.alloc (z := .agg zeroBatC.toArray) zeroBatC (by kernel_rfl) rfl rfl ?_
        intro g12 w12 hg12 hX12 hB12
        refine W.storeA (batC xr vi75 vl75) rfl rfl hB12 rfl (by kernel_rfl) (batC_one _ hvi hvl) ?_
        intro w76 hc76 hB76
        have hX76 : Ext w75 w76 := hX12.news hc76 fun k hk => Or.inr (by omega)
        have hI76 : RNums (fun _ => False) w76 [vi75] xr.inner := rNums.new (RdOk.ext rNums hI75 hX76) fun k h _ => h.elim
        have hL76 : RSl 33 RLet (fun _ => False) w76 [vl75] xr.lets := (rSl 33 rLet).new (RdOk.ext (rSl 33 rLet) hL75 hX76) fun k h _ => h.elim
        have hb76 := (hbB.ext hX75).ext hX76
        have hX76a := (hXB.ext hX75).ext hX76
        refine W.assign rfl rfl ?_
        refine W.nil ?_
        refine At.thenCode ?_
        refine C.seq ?_
        refine C.seq ?_
        refine C.region ?_
        refine W.move rfl rfl ?_
        refine W.call Try.call14 rfl (Law11.num_ok _ _) rfl ?_
        rintro v79 w79 ⟨rfl, rfl⟩
        refine W.eqlI rfl rfl rfl ?_
        refine W.nil ?_
        refine At.thenCode ?_
        first | refine C.condD rfl (fun c80 => ?_) (fun c80 => ?_) | refine C.cond rfl (fun c80 => ?_) (fun c80 => ?_)
        · have h2 : batRE b = 0 := by omega
          obtain ⟨n1, n2⟩ := hxg h2
          obtain ⟨n3, n4, n5⟩ := bat_small n1
          refine C.seq ?_
          refine C.region ?_
          refine W.loadA rfl (hB76.cells (o := 0)) Try.underlying60 rfl (by kernel_rfl) rfl ?_
          rw [List.drop_zero]
          refine W.call Try.call31 rfl (Cod.Batch_ok xr vi75 vl75 _ hI76 hL76 hxo (by omega) (by omega) (fun p hp => by have := n5 p hp; omega)) rfl ?_
          rintro v83 w83 ⟨ao83, c83, rfl, hN83, hX83⟩
          rw [n1, n2] at *
          refine W.move rfl rfl ?_
          refine W.extract rfl rfl rfl ?_
          refine W.extract rfl rfl rfl ?_
          refine W.assign rfl rfl ?_
          refine W.assign rfl rfl ?_
          refine W.nil ?_
          refine At.thenCode ?_
          refine C.seq ?_
          refine C.region ?_
          refine W.move rfl rfl ?_
          refine W.call Try.call14 rfl (Law11.num_ok _ _) rfl ?_
          rintro v87 w87 ⟨rfl, rfl⟩
          refine W.neqI rfl rfl rfl ?_
          refine W.eqv (bF (fun h => h rfl)) ?_
          refine W.move rfl rfl ?_
          refine W.wants rfl rfl rfl rfl ?_
          refine W.move rfl rfl ?_
          refine W.wants rfl rfl rfl rfl ?_
          refine W.bytesStr Try.underlying27 Try.underlying5 Try.underlying9 rfl hN83.1 rfl ?_
          refine W.wants rfl rfl rfl rfl ?_
          refine W.move rfl rfl ?_
          refine W.wants rfl rfl rfl rfl ?_
          refine W.bytesStr Try.underlying27 Try.underlying5 Try.underlying9 rfl (hb76.ext hX83) rfl ?_
          refine W.wants rfl rfl rfl rfl ?_
          refine W.neqStr rfl rfl rfl ?_
          refine W.eqv (bF (fun h => h rfl)) ?_
          refine W.pickF rfl rfl rfl ?_
          refine W.nil ?_
          refine At.thenCode ?_
          refine C.condF rfl ?_
          -- known too
          have hbC := hb76.ext hX83
          have hXC := hX76a.ext hX83
          refine C.skip ?_
          refine At.thenCode ?_
          refine C.seq ?_
          refine C.region ?_
          refine W.move rfl rfl ?_
          refine W.call Try.call12 rfl (Cod.ReadNote_ok ao c b _ hbC hlen) rfl ?_
          rintro v98 w98 ⟨rfl, hX98⟩
          obtain ⟨nr, hnr⟩ : ∃ nr, nr = noteR b := ⟨_, rfl⟩
          have hng := note_again b
          have hno := noteR_ok b
          rw [← hnr] at hng hno ⊢
          have hnl := noteC_length hno
          refine W.move rfl rfl ?_
          refine W.extract rfl rfl rfl ?_
          refine W.extract rfl rfl rfl ?_
          refine W.alloc (z := .agg zeroNoteC.toArray) zeroNoteC (by kernel_rfl) rfl rfl ?_
          intro g16 w16 hg16 hX16 hB16
          refine W.storeA (noteC nr) rfl rfl hB16 (by rw [hnl]; rfl) (by rw [hnl]; kernel_rfl) (noteC_one _) ?_
          intro w99 hc99 hB99
          have hX99 : Ext w98 w99 := hX16.news hc99 fun k hk => Or.inr (by omega)
          have hb99 := (hbC.ext hX98).ext hX99
          have hX99a := (hXC.ext hX98).ext hX99
          refine W.assign rfl rfl ?_
          refine W.nil ?_
          refine At.thenCode ?_
          refine C.seq ?_
          by_cases hz : noteRE b = 0
          · refine C.regionAny 12 ((fun v w => v = .int .i64 (noteRE b : Int)) :: (fun v w => v = .int .i64 (noteRE b : Int)) :: (fun v w => v = .bool false) :: (fun v w => v = .bool false) :: (fun v w => v = .agg (noteC nr).toArray) :: (fun v w => Rep w v b) :: (fun v w => v = strV b) :: (fun v w => v = .slice ao b.length c) :: (fun v w => v = strV b) :: (fun v w => v = .bool true) :: (fun v w => v = .bool true) :: (fun v w => v = .bool true) :: []) [(0, .slice ao b.length c), (16, .pointer (some ⟨g16, 0, none⟩)), (17, .int .i64 (noteRE b : Int))] [] (Sub.cons (rfl) (Sub.cons (rfl) (Sub.cons (rfl) (Sub.nil)))) (Sub.nil) (Sub.cons (rfl) (Sub.cons (rfl) (Sub.cons (rfl) (Sub.nil)))) (by kernel_rfl) rfl rfl rfl (And.intro (fun _ _ _ h _ => h) (And.intro (fun _ _ _ h _ => h) (And.intro (fun _ _ _ h _ => h) (And.intro (fun _ _ _ h _ => h) (And.intro (fun _ _ _ h _ => h) (And.intro (fun _ _ _ h g => h.ext g) (And.intro (fun _ _ _ h _ => h) (And.intro (fun _ _ _ h _ => h) (And.intro (fun _ _ _ h _ => h) (And.intro (fun _ _ _ h _ => h) (And.intro (fun _ _ _ h _ => h) (And.intro (fun _ _ _ h _ => h) (trivial))))))))))))) ?_ ?_
            · refine And.intro ?_ ?_
              · intro L_ wr hX_ hs_ hf_ hd_
                refine W.step [(17, _)] (Sub.cons (hs_ _ _ rfl) (Sub.refl _)) ?_
                refine W.move rfl rfl ?_
                refine W.nil ?_
                exact At.step (Ext.refl _) rfl
              refine And.intro ?_ ?_
              · intro L_ wr hX_ hs_ hf_ hd_
                obtain ⟨v0, e0, r0⟩ := hd_ 0 rfl
                obtain rfl : (.int .i64 (noteRE b : Int) : Value) = v0 := Eq.symm r0
                refine W.step [(101, _)] (Sub.cons (e0 _ rfl) (Sub.refl _)) ?_
                refine W.call Try.call14 rfl (Law11.num_ok _ _) rfl ?_
                rintro v102 w102 ⟨rfl, rfl⟩
                refine W.nil ?_
                exact At.step (Ext.refl _) rfl
              refine And.intro ?_ ?_
              · intro L_ wr hX_ hs_ hf_ hd_
                obtain ⟨v1, e1, r1⟩ := hd_ 1 rfl
                obtain rfl : (.int .i64 (noteRE b : Int) : Value) = v1 := Eq.symm r1
                refine W.step [(102, _)] (Sub.cons (e1 _ rfl) (Sub.refl _)) ?_
                refine W.neqI rfl rfl rfl ?_
                refine W.eqv (bF (by omega)) ?_
                refine W.nil ?_
                exact At.step (Ext.refl _) rfl
              refine And.intro ?_ ?_
              · intro L_ wr hX_ hs_ hf_ hd_
                obtain ⟨v2, e2, r2⟩ := hd_ 2 rfl
                obtain rfl : (.bool false : Value) = v2 := Eq.symm r2
                refine W.step [(103, _)] (Sub.cons (e2 _ rfl) (Sub.refl _)) ?_
                refine W.move rfl rfl ?_
                refine W.nil ?_
                exact At.step (Ext.refl _) rfl
              refine And.intro ?_ ?_
              · intro L_ wr hX_ hs_ hf_ hd_
                obtain ⟨v3, e3, r3⟩ := hd_ 3 rfl
                obtain rfl : (.bool false : Value) = v3 := Eq.symm r3
                refine W.step [(16, _), (104, _)] (Sub.cons (hs_ _ _ rfl) (Sub.cons (e3 _ rfl) (Sub.refl _))) ?_
                refine W.wants rfl rfl rfl rfl ?_
                refine W.loadA rfl ((hB99.ext hX_).cells (o := 0)) Try.underlying25 rfl (by rw [List.drop_zero, hnl]; kernel_rfl) rfl ?_
                rw [List.drop_zero]
                refine W.nil ?_
                exact At.step (Ext.refl _) rfl
              refine And.intro ?_ ?_
              · intro L_ wr hX_ hs_ hf_ hd_
                obtain ⟨v4, e4, r4⟩ := hd_ 4 rfl
                obtain rfl : (.agg (noteC nr).toArray : Value) = v4 := Eq.symm r4
                obtain ⟨v3, e3, r3⟩ := hd_ 3 rfl
                obtain rfl : (.bool false : Value) = v3 := Eq.symm r3
                refine W.step [(105, _), (104, _)] (Sub.cons (e4 _ rfl) (Sub.cons (e3 _ rfl) (Sub.refl _))) ?_
                refine W.wants rfl rfl rfl rfl ?_
                refine W.call Try.call11 rfl (Cod.Note_ok nr _ hno) rfl ?_
                rintro v106 w106 ⟨ao106, c106, rfl, hN106, hX106⟩
                refine W.nil ?_
                exact At.step hX106 (by have := hng hz; rw [this] at hN106; exact ⟨ao106, c106, by rw [this], hN106.1⟩)
              refine And.intro ?_ ?_
              · intro L_ wr hX_ hs_ hf_ hd_
                obtain ⟨v5, e5, r5⟩ := hd_ 5 rfl
                obtain ⟨a5, c5, rfl, hb5⟩ := r5
                obtain ⟨v3, e3, r3⟩ := hd_ 3 rfl
                obtain rfl : (.bool false : Value) = v3 := Eq.symm r3
                refine W.step [(106, _), (104, _)] (Sub.cons (e5 _ rfl) (Sub.cons (e3 _ rfl) (Sub.refl _))) ?_
                refine W.wants rfl rfl rfl rfl ?_
                refine W.bytesStr Try.underlying27 Try.underlying5 Try.underlying9 rfl hb5 rfl ?_
                refine W.nil ?_
                exact At.step (Ext.refl _) rfl
              refine And.intro ?_ ?_
              · intro L_ wr hX_ hs_ hf_ hd_
                obtain ⟨v3, e3, r3⟩ := hd_ 3 rfl
                obtain rfl : (.bool false : Value) = v3 := Eq.symm r3
                refine W.step [(0, _), (104, _)] (Sub.cons (hs_ _ _ rfl) (Sub.cons (e3 _ rfl) (Sub.refl _))) ?_
                refine W.wants rfl rfl rfl rfl ?_
                refine W.move rfl rfl ?_
                refine W.nil ?_
                exact At.step (Ext.refl _) rfl
              refine And.intro ?_ ?_
              · intro L_ wr hX_ hs_ hf_ hd_
                obtain ⟨v7, e7, r7⟩ := hd_ 7 rfl
                obtain rfl : (.slice ao b.length c : Value) = v7 := Eq.symm r7
                obtain ⟨v3, e3, r3⟩ := hd_ 3 rfl
                obtain rfl : (.bool false : Value) = v3 := Eq.symm r3
                refine W.step [(108, _), (104, _)] (Sub.cons (e7 _ rfl) (Sub.cons (e3 _ rfl) (Sub.refl _))) ?_
                refine W.wants rfl rfl rfl rfl ?_
                refine W.bytesStr Try.underlying27 Try.underlying5 Try.underlying9 rfl (hb99.ext hX_) rfl ?_
                refine W.nil ?_
                exact At.step (Ext.refl _) rfl
              refine And.intro ?_ ?_
              · intro L_ wr hX_ hs_ hf_ hd_
                obtain ⟨v6, e6, r6⟩ := hd_ 6 rfl
                obtain rfl : (strV b : Value) = v6 := Eq.symm r6
                obtain ⟨v8, e8, r8⟩ := hd_ 8 rfl
                obtain rfl : (strV b : Value) = v8 := Eq.symm r8
                obtain ⟨v3, e3, r3⟩ := hd_ 3 rfl
                obtain rfl : (.bool false : Value) = v3 := Eq.symm r3
                refine W.step [(107, _), (109, _), (104, _)] (Sub.cons (e6 _ rfl) (Sub.cons (e8 _ rfl) (Sub.cons (e3 _ rfl) (Sub.refl _)))) ?_
                refine W.wants rfl rfl rfl rfl ?_
                refine W.eqlStr rfl rfl rfl ?_
                refine W.eqv (bT (rfl)) ?_
                refine W.nil ?_
                exact At.step (Ext.refl _) rfl
              refine And.intro ?_ ?_
              · intro L_ wr hX_ hs_ hf_ hd_
                obtain ⟨v3, e3, r3⟩ := hd_ 3 rfl
                obtain rfl : (.bool false : Value) = v3 := Eq.symm r3
                obtain ⟨v9, e9, r9⟩ := hd_ 9 rfl
                obtain rfl : (.bool true : Value) = v9 := Eq.symm r9
                refine W.step [(104, _), (110, _)] (Sub.cons (e3 _ rfl) (Sub.cons (e9 _ rfl) (Sub.refl _))) ?_
                refine W.pickF rfl rfl rfl ?_
                refine W.nil ?_
                exact At.step (Ext.refl _) rfl
              refine And.intro ?_ ?_
              · intro L_ wr hX_ hs_ hf_ hd_
                obtain ⟨v10, e10, r10⟩ := hd_ 10 rfl
                obtain rfl : (.bool true : Value) = v10 := Eq.symm r10
                refine W.step [(111, _)] (Sub.cons (e10 _ rfl) (Sub.refl _)) ?_
                refine W.assign rfl rfl ?_
                refine W.nil ?_
                exact At.step (Ext.refl _) rfl
              exact trivial
            · intro L_ wr hX20 hs_ hv_
              obtain ⟨v11, e11, r11⟩ := hv_ 11 (by decide)
              obtain rfl : (.bool true : Value) = v11 := Eq.symm r11
              refine W.weaken (l' := [(2, _), (0, _), (16, _), (17, _)]) (Sub.cons (e11 _ rfl) (Sub.cons (hs_ _ _ rfl) (Sub.cons (hs_ _ _ rfl) (Sub.cons (hs_ _ _ rfl) (Sub.nil))))) ?_
              refine W.nil ?_
              refine At.thenCode ?_
              refine C.ret ?_
              refine At.ret1 Try.results9 rfl ?_
              first
              | exact ⟨rfl, Ext.below (hX99a.ext hX20)⟩
              | exact ⟨rfl, Ext.below hX18⟩
          · refine C.regionAny 12 ((fun v w => v = .int .i64 (noteRE b : Int)) :: (fun v w => v = .int .i64 (noteRE b : Int)) :: (fun v w => v = .bool true) :: (fun v w => v = .bool true) :: (fun v w => v = undef) :: (fun v w => v = undef) :: (fun v w => v = undef) :: (fun v w => v = undef) :: (fun v w => v = undef) :: (fun v w => v = undef) :: (fun v w => v = .bool true) :: (fun v w => v = .bool true) :: []) [(0, .slice ao b.length c), (16, .pointer (some ⟨g16, 0, none⟩)), (17, .int .i64 (noteRE b : Int))] [] (Sub.cons (rfl) (Sub.cons (rfl) (Sub.cons (rfl) (Sub.nil)))) (Sub.nil) (Sub.cons (rfl) (Sub.cons (rfl) (Sub.cons (rfl) (Sub.nil)))) (by kernel_rfl) rfl rfl rfl (And.intro (fun _ _ _ h _ => h) (And.intro (fun _ _ _ h _ => h) (And.intro (fun _ _ _ h _ => h) (And.intro (fun _ _ _ h _ => h) (And.intro (fun _ _ _ h _ => h) (And.intro (fun _ _ _ h _ => h) (And.intro (fun _ _ _ h _ => h) (And.intro (fun _ _ _ h _ => h) (And.intro (fun _ _ _ h _ => h) (And.intro (fun _ _ _ h _ => h) (And.intro (fun _ _ _ h _ => h) (And.intro (fun _ _ _ h _ => h) (trivial))))))))))))) ?_ ?_
            · refine And.intro ?_ ?_
              · intro L_ wr hX_ hs_ hf_ hd_
                refine W.step [(17, _)] (Sub.cons (hs_ _ _ rfl) (Sub.refl _)) ?_
                refine W.move rfl rfl ?_
                refine W.nil ?_
                exact At.step (Ext.refl _) rfl
              refine And.intro ?_ ?_
              · intro L_ wr hX_ hs_ hf_ hd_
                obtain ⟨v0, e0, r0⟩ := hd_ 0 rfl
                obtain rfl : (.int .i64 (noteRE b : Int) : Value) = v0 := Eq.symm r0
                refine W.step [(101, _)] (Sub.cons (e0 _ rfl) (Sub.refl _)) ?_
                refine W.call Try.call14 rfl (Law11.num_ok _ _) rfl ?_
                rintro v102 w102 ⟨rfl, rfl⟩
                refine W.nil ?_
                exact At.step (Ext.refl _) rfl
              refine And.intro ?_ ?_
              · intro L_ wr hX_ hs_ hf_ hd_
                obtain ⟨v1, e1, r1⟩ := hd_ 1 rfl
                obtain rfl : (.int .i64 (noteRE b : Int) : Value) = v1 := Eq.symm r1
                refine W.step [(102, _)] (Sub.cons (e1 _ rfl) (Sub.refl _)) ?_
                refine W.neqI rfl rfl rfl ?_
                refine W.eqv (bT (by omega)) ?_
                refine W.nil ?_
                exact At.step (Ext.refl _) rfl
              refine And.intro ?_ ?_
              · intro L_ wr hX_ hs_ hf_ hd_
                obtain ⟨v2, e2, r2⟩ := hd_ 2 rfl
                obtain rfl : (.bool true : Value) = v2 := Eq.symm r2
                refine W.step [(103, _)] (Sub.cons (e2 _ rfl) (Sub.refl _)) ?_
                refine W.move rfl rfl ?_
                refine W.nil ?_
                exact At.step (Ext.refl _) rfl
              refine And.intro ?_ ?_
              · intro L_ wr hX_ hs_ hf_ hd_
                obtain ⟨v3, e3, r3⟩ := hd_ 3 rfl
                obtain rfl : (.bool true : Value) = v3 := Eq.symm r3
                refine W.step [(104, _)] (Sub.cons (e3 _ rfl) (Sub.refl _)) ?_
                refine W.skips rfl rfl rfl rfl rfl rfl ?_
                refine W.nil ?_
                exact At.step (Ext.refl _) rfl
              refine And.intro ?_ ?_
              · intro L_ wr hX_ hs_ hf_ hd_
                obtain ⟨v3, e3, r3⟩ := hd_ 3 rfl
                obtain rfl : (.bool true : Value) = v3 := Eq.symm r3
                refine W.step [(104, _)] (Sub.cons (e3 _ rfl) (Sub.refl _)) ?_
                refine W.skips rfl rfl rfl rfl rfl rfl ?_
                refine W.nil ?_
                exact At.step (Ext.refl _) rfl
              refine And.intro ?_ ?_
              · intro L_ wr hX_ hs_ hf_ hd_
                obtain ⟨v3, e3, r3⟩ := hd_ 3 rfl
                obtain rfl : (.bool true : Value) = v3 := Eq.symm r3
                refine W.step [(104, _)] (Sub.cons (e3 _ rfl) (Sub.refl _)) ?_
                refine W.skips rfl rfl rfl rfl rfl rfl ?_
                refine W.nil ?_
                exact At.step (Ext.refl _) rfl
              refine And.intro ?_ ?_
              · intro L_ wr hX_ hs_ hf_ hd_
                obtain ⟨v3, e3, r3⟩ := hd_ 3 rfl
                obtain rfl : (.bool true : Value) = v3 := Eq.symm r3
                refine W.step [(104, _)] (Sub.cons (e3 _ rfl) (Sub.refl _)) ?_
                refine W.skips rfl rfl rfl rfl rfl rfl ?_
                refine W.nil ?_
                exact At.step (Ext.refl _) rfl
              refine And.intro ?_ ?_
              · intro L_ wr hX_ hs_ hf_ hd_
                obtain ⟨v3, e3, r3⟩ := hd_ 3 rfl
                obtain rfl : (.bool true : Value) = v3 := Eq.symm r3
                refine W.step [(104, _)] (Sub.cons (e3 _ rfl) (Sub.refl _)) ?_
                refine W.skips rfl rfl rfl rfl rfl rfl ?_
                refine W.nil ?_
                exact At.step (Ext.refl _) rfl
              refine And.intro ?_ ?_
              · intro L_ wr hX_ hs_ hf_ hd_
                obtain ⟨v3, e3, r3⟩ := hd_ 3 rfl
                obtain rfl : (.bool true : Value) = v3 := Eq.symm r3
                refine W.step [(104, _)] (Sub.cons (e3 _ rfl) (Sub.refl _)) ?_
                refine W.skips rfl rfl rfl rfl rfl rfl ?_
                refine W.nil ?_
                exact At.step (Ext.refl _) rfl
              refine And.intro ?_ ?_
              · intro L_ wr hX_ hs_ hf_ hd_
                obtain ⟨v3, e3, r3⟩ := hd_ 3 rfl
                obtain rfl : (.bool true : Value) = v3 := Eq.symm r3
                obtain ⟨v9, e9, r9⟩ := hd_ 9 rfl
                obtain rfl : (undef : Value) = v9 := Eq.symm r9
                refine W.step [(104, _), (110, _)] (Sub.cons (e3 _ rfl) (Sub.cons (e9 _ rfl) (Sub.refl _))) ?_
                refine W.pickT rfl rfl rfl ?_
                refine W.nil ?_
                exact At.step (Ext.refl _) rfl
              refine And.intro ?_ ?_
              · intro L_ wr hX_ hs_ hf_ hd_
                obtain ⟨v10, e10, r10⟩ := hd_ 10 rfl
                obtain rfl : (.bool true : Value) = v10 := Eq.symm r10
                refine W.step [(111, _)] (Sub.cons (e10 _ rfl) (Sub.refl _)) ?_
                refine W.assign rfl rfl ?_
                refine W.nil ?_
                exact At.step (Ext.refl _) rfl
              exact trivial
            · intro L_ wr hX20 hs_ hv_
              obtain ⟨v11, e11, r11⟩ := hv_ 11 (by decide)
              obtain rfl : (.bool true : Value) = v11 := Eq.symm r11
              refine W.weaken (l' := [(2, _), (0, _), (16, _), (17, _)]) (Sub.cons (e11 _ rfl) (Sub.cons (hs_ _ _ rfl) (Sub.cons (hs_ _ _ rfl) (Sub.cons (hs_ _ _ rfl) (Sub.nil))))) ?_
              refine W.nil ?_
              refine At.thenCode ?_
              refine C.ret ?_
              refine At.ret1 Try.results9 rfl ?_
              first
              | exact ⟨rfl, Ext.below (hX99a.ext hX20)⟩
              | exact ⟨rfl, Ext.below hX18⟩
        · have hbC := hb76
          have hXC := hX76a
          refine C.skip ?_
          refine At.thenCode ?_
          refine C.seq ?_
          refine C.region ?_
          refine W.move rfl rfl ?_
          refine W.call Try.call12 rfl (Cod.ReadNote_ok ao c b _ hbC hlen) rfl ?_
          rintro v98 w98 ⟨rfl, hX98⟩
          obtain ⟨nr, hnr⟩ : ∃ nr, nr = noteR b := ⟨_, rfl⟩
          have hng := note_again b
          have hno := noteR_ok b
          rw [← hnr] at hng hno ⊢
          have hnl := noteC_length hno
          refine W.move rfl rfl ?_
          refine W.extract rfl rfl rfl ?_
          refine W.extract rfl rfl rfl ?_
          refine W.alloc (z := .agg zeroNoteC.toArray) zeroNoteC (by kernel_rfl) rfl rfl ?_
          intro g16 w16 hg16 hX16 hB16
          refine W.storeA (noteC nr) rfl rfl hB16 (by rw [hnl]; rfl) (by rw [hnl]; kernel_rfl) (noteC_one _) ?_
          intro w99 hc99 hB99
          have hX99 : Ext w98 w99 := hX16.news hc99 fun k hk => Or.inr (by omega)
          have hb99 := (hbC.ext hX98).ext hX99
          have hX99a := (hXC.ext hX98).ext hX99
          refine W.assign rfl rfl ?_
          refine W.nil ?_
          refine At.thenCode ?_
          refine C.seq ?_
          by_cases hz : noteRE b = 0
          · refine C.regionAny 12 ((fun v w => v = .int .i64 (noteRE b : Int)) :: (fun v w => v = .int .i64 (noteRE b : Int)) :: (fun v w => v = .bool false) :: (fun v w => v = .bool false) :: (fun v w => v = .agg (noteC nr).toArray) :: (fun v w => Rep w v b) :: (fun v w => v = strV b) :: (fun v w => v = .slice ao b.length c) :: (fun v w => v = strV b) :: (fun v w => v = .bool true) :: (fun v w => v = .bool true) :: (fun v w => v = .bool true) :: []) [(0, .slice ao b.length c), (16, .pointer (some ⟨g16, 0, none⟩)), (17, .int .i64 (noteRE b : Int))] [] (Sub.cons (rfl) (Sub.cons (rfl) (Sub.cons (rfl) (Sub.nil)))) (Sub.nil) (Sub.cons (rfl) (Sub.cons (rfl) (Sub.cons (rfl) (Sub.nil)))) (by kernel_rfl) rfl rfl rfl (And.intro (fun _ _ _ h _ => h) (And.intro (fun _ _ _ h _ => h) (And.intro (fun _ _ _ h _ => h) (And.intro (fun _ _ _ h _ => h) (And.intro (fun _ _ _ h _ => h) (And.intro (fun _ _ _ h g => h.ext g) (And.intro (fun _ _ _ h _ => h) (And.intro (fun _ _ _ h _ => h) (And.intro (fun _ _ _ h _ => h) (And.intro (fun _ _ _ h _ => h) (And.intro (fun _ _ _ h _ => h) (And.intro (fun _ _ _ h _ => h) (trivial))))))))))))) ?_ ?_
            · refine And.intro ?_ ?_
              · intro L_ wr hX_ hs_ hf_ hd_
                refine W.step [(17, _)] (Sub.cons (hs_ _ _ rfl) (Sub.refl _)) ?_
                refine W.move rfl rfl ?_
                refine W.nil ?_
                exact At.step (Ext.refl _) rfl
              refine And.intro ?_ ?_
              · intro L_ wr hX_ hs_ hf_ hd_
                obtain ⟨v0, e0, r0⟩ := hd_ 0 rfl
                obtain rfl : (.int .i64 (noteRE b : Int) : Value) = v0 := Eq.symm r0
                refine W.step [(101, _)] (Sub.cons (e0 _ rfl) (Sub.refl _)) ?_
                refine W.call Try.call14 rfl (Law11.num_ok _ _) rfl ?_
                rintro v102 w102 ⟨rfl, rfl⟩
                refine W.nil ?_
                exact At.step (Ext.refl _) rfl
              refine And.intro ?_ ?_
              · intro L_ wr hX_ hs_ hf_ hd_
                obtain ⟨v1, e1, r1⟩ := hd_ 1 rfl
                obtain rfl : (.int .i64 (noteRE b : Int) : Value) = v1 := Eq.symm r1
                refine W.step [(102, _)] (Sub.cons (e1 _ rfl) (Sub.refl _)) ?_
                refine W.neqI rfl rfl rfl ?_
                refine W.eqv (bF (by omega)) ?_
                refine W.nil ?_
                exact At.step (Ext.refl _) rfl
              refine And.intro ?_ ?_
              · intro L_ wr hX_ hs_ hf_ hd_
                obtain ⟨v2, e2, r2⟩ := hd_ 2 rfl
                obtain rfl : (.bool false : Value) = v2 := Eq.symm r2
                refine W.step [(103, _)] (Sub.cons (e2 _ rfl) (Sub.refl _)) ?_
                refine W.move rfl rfl ?_
                refine W.nil ?_
                exact At.step (Ext.refl _) rfl
              refine And.intro ?_ ?_
              · intro L_ wr hX_ hs_ hf_ hd_
                obtain ⟨v3, e3, r3⟩ := hd_ 3 rfl
                obtain rfl : (.bool false : Value) = v3 := Eq.symm r3
                refine W.step [(16, _), (104, _)] (Sub.cons (hs_ _ _ rfl) (Sub.cons (e3 _ rfl) (Sub.refl _))) ?_
                refine W.wants rfl rfl rfl rfl ?_
                refine W.loadA rfl ((hB99.ext hX_).cells (o := 0)) Try.underlying25 rfl (by rw [List.drop_zero, hnl]; kernel_rfl) rfl ?_
                rw [List.drop_zero]
                refine W.nil ?_
                exact At.step (Ext.refl _) rfl
              refine And.intro ?_ ?_
              · intro L_ wr hX_ hs_ hf_ hd_
                obtain ⟨v4, e4, r4⟩ := hd_ 4 rfl
                obtain rfl : (.agg (noteC nr).toArray : Value) = v4 := Eq.symm r4
                obtain ⟨v3, e3, r3⟩ := hd_ 3 rfl
                obtain rfl : (.bool false : Value) = v3 := Eq.symm r3
                refine W.step [(105, _), (104, _)] (Sub.cons (e4 _ rfl) (Sub.cons (e3 _ rfl) (Sub.refl _))) ?_
                refine W.wants rfl rfl rfl rfl ?_
                refine W.call Try.call11 rfl (Cod.Note_ok nr _ hno) rfl ?_
                rintro v106 w106 ⟨ao106, c106, rfl, hN106, hX106⟩
                refine W.nil ?_
                exact At.step hX106 (by have := hng hz; rw [this] at hN106; exact ⟨ao106, c106, by rw [this], hN106.1⟩)
              refine And.intro ?_ ?_
              · intro L_ wr hX_ hs_ hf_ hd_
                obtain ⟨v5, e5, r5⟩ := hd_ 5 rfl
                obtain ⟨a5, c5, rfl, hb5⟩ := r5
                obtain ⟨v3, e3, r3⟩ := hd_ 3 rfl
                obtain rfl : (.bool false : Value) = v3 := Eq.symm r3
                refine W.step [(106, _), (104, _)] (Sub.cons (e5 _ rfl) (Sub.cons (e3 _ rfl) (Sub.refl _))) ?_
                refine W.wants rfl rfl rfl rfl ?_
                refine W.bytesStr Try.underlying27 Try.underlying5 Try.underlying9 rfl hb5 rfl ?_
                refine W.nil ?_
                exact At.step (Ext.refl _) rfl
              refine And.intro ?_ ?_
              · intro L_ wr hX_ hs_ hf_ hd_
                obtain ⟨v3, e3, r3⟩ := hd_ 3 rfl
                obtain rfl : (.bool false : Value) = v3 := Eq.symm r3
                refine W.step [(0, _), (104, _)] (Sub.cons (hs_ _ _ rfl) (Sub.cons (e3 _ rfl) (Sub.refl _))) ?_
                refine W.wants rfl rfl rfl rfl ?_
                refine W.move rfl rfl ?_
                refine W.nil ?_
                exact At.step (Ext.refl _) rfl
              refine And.intro ?_ ?_
              · intro L_ wr hX_ hs_ hf_ hd_
                obtain ⟨v7, e7, r7⟩ := hd_ 7 rfl
                obtain rfl : (.slice ao b.length c : Value) = v7 := Eq.symm r7
                obtain ⟨v3, e3, r3⟩ := hd_ 3 rfl
                obtain rfl : (.bool false : Value) = v3 := Eq.symm r3
                refine W.step [(108, _), (104, _)] (Sub.cons (e7 _ rfl) (Sub.cons (e3 _ rfl) (Sub.refl _))) ?_
                refine W.wants rfl rfl rfl rfl ?_
                refine W.bytesStr Try.underlying27 Try.underlying5 Try.underlying9 rfl (hb99.ext hX_) rfl ?_
                refine W.nil ?_
                exact At.step (Ext.refl _) rfl
              refine And.intro ?_ ?_
              · intro L_ wr hX_ hs_ hf_ hd_
                obtain ⟨v6, e6, r6⟩ := hd_ 6 rfl
                obtain rfl : (strV b : Value) = v6 := Eq.symm r6
                obtain ⟨v8, e8, r8⟩ := hd_ 8 rfl
                obtain rfl : (strV b : Value) = v8 := Eq.symm r8
                obtain ⟨v3, e3, r3⟩ := hd_ 3 rfl
                obtain rfl : (.bool false : Value) = v3 := Eq.symm r3
                refine W.step [(107, _), (109, _), (104, _)] (Sub.cons (e6 _ rfl) (Sub.cons (e8 _ rfl) (Sub.cons (e3 _ rfl) (Sub.refl _)))) ?_
                refine W.wants rfl rfl rfl rfl ?_
                refine W.eqlStr rfl rfl rfl ?_
                refine W.eqv (bT (rfl)) ?_
                refine W.nil ?_
                exact At.step (Ext.refl _) rfl
              refine And.intro ?_ ?_
              · intro L_ wr hX_ hs_ hf_ hd_
                obtain ⟨v3, e3, r3⟩ := hd_ 3 rfl
                obtain rfl : (.bool false : Value) = v3 := Eq.symm r3
                obtain ⟨v9, e9, r9⟩ := hd_ 9 rfl
                obtain rfl : (.bool true : Value) = v9 := Eq.symm r9
                refine W.step [(104, _), (110, _)] (Sub.cons (e3 _ rfl) (Sub.cons (e9 _ rfl) (Sub.refl _))) ?_
                refine W.pickF rfl rfl rfl ?_
                refine W.nil ?_
                exact At.step (Ext.refl _) rfl
              refine And.intro ?_ ?_
              · intro L_ wr hX_ hs_ hf_ hd_
                obtain ⟨v10, e10, r10⟩ := hd_ 10 rfl
                obtain rfl : (.bool true : Value) = v10 := Eq.symm r10
                refine W.step [(111, _)] (Sub.cons (e10 _ rfl) (Sub.refl _)) ?_
                refine W.assign rfl rfl ?_
                refine W.nil ?_
                exact At.step (Ext.refl _) rfl
              exact trivial
            · intro L_ wr hX20 hs_ hv_
              obtain ⟨v11, e11, r11⟩ := hv_ 11 (by decide)
              obtain rfl : (.bool true : Value) = v11 := Eq.symm r11
              refine W.weaken (l' := [(2, _), (0, _), (16, _), (17, _)]) (Sub.cons (e11 _ rfl) (Sub.cons (hs_ _ _ rfl) (Sub.cons (hs_ _ _ rfl) (Sub.cons (hs_ _ _ rfl) (Sub.nil))))) ?_
              refine W.nil ?_
              refine At.thenCode ?_
              refine C.ret ?_
              refine At.ret1 Try.results9 rfl ?_
              first
              | exact ⟨rfl, Ext.below (hX99a.ext hX20)⟩
              | exact ⟨rfl, Ext.below hX18⟩
          · refine C.regionAny 12 ((fun v w => v = .int .i64 (noteRE b : Int)) :: (fun v w => v = .int .i64 (noteRE b : Int)) :: (fun v w => v = .bool true) :: (fun v w => v = .bool true) :: (fun v w => v = undef) :: (fun v w => v = undef) :: (fun v w => v = undef) :: (fun v w => v = undef) :: (fun v w => v = undef) :: (fun v w => v = undef) :: (fun v w => v = .bool true) :: (fun v w => v = .bool true) :: []) [(0, .slice ao b.length c), (16, .pointer (some ⟨g16, 0, none⟩)), (17, .int .i64 (noteRE b : Int))] [] (Sub.cons (rfl) (Sub.cons (rfl) (Sub.cons (rfl) (Sub.nil)))) (Sub.nil) (Sub.cons (rfl) (Sub.cons (rfl) (Sub.cons (rfl) (Sub.nil)))) (by kernel_rfl) rfl rfl rfl (And.intro (fun _ _ _ h _ => h) (And.intro (fun _ _ _ h _ => h) (And.intro (fun _ _ _ h _ => h) (And.intro (fun _ _ _ h _ => h) (And.intro (fun _ _ _ h _ => h) (And.intro (fun _ _ _ h _ => h) (And.intro (fun _ _ _ h _ => h) (And.intro (fun _ _ _ h _ => h) (And.intro (fun _ _ _ h _ => h) (And.intro (fun _ _ _ h _ => h) (And.intro (fun _ _ _ h _ => h) (And.intro (fun _ _ _ h _ => h) (trivial))))))))))))) ?_ ?_
            · refine And.intro ?_ ?_
              · intro L_ wr hX_ hs_ hf_ hd_
                refine W.step [(17, _)] (Sub.cons (hs_ _ _ rfl) (Sub.refl _)) ?_
                refine W.move rfl rfl ?_
                refine W.nil ?_
                exact At.step (Ext.refl _) rfl
              refine And.intro ?_ ?_
              · intro L_ wr hX_ hs_ hf_ hd_
                obtain ⟨v0, e0, r0⟩ := hd_ 0 rfl
                obtain rfl : (.int .i64 (noteRE b : Int) : Value) = v0 := Eq.symm r0
                refine W.step [(101, _)] (Sub.cons (e0 _ rfl) (Sub.refl _)) ?_
                refine W.call Try.call14 rfl (Law11.num_ok _ _) rfl ?_
                rintro v102 w102 ⟨rfl, rfl⟩
                refine W.nil ?_
                exact At.step (Ext.refl _) rfl
              refine And.intro ?_ ?_
              · intro L_ wr hX_ hs_ hf_ hd_
                obtain ⟨v1, e1, r1⟩ := hd_ 1 rfl
                obtain rfl : (.int .i64 (noteRE b : Int) : Value) = v1 := Eq.symm r1
                refine W.step [(102, _)] (Sub.cons (e1 _ rfl) (Sub.refl _)) ?_
                refine W.neqI rfl rfl rfl ?_
                refine W.eqv (bT (by omega)) ?_
                refine W.nil ?_
                exact At.step (Ext.refl _) rfl
              refine And.intro ?_ ?_
              · intro L_ wr hX_ hs_ hf_ hd_
                obtain ⟨v2, e2, r2⟩ := hd_ 2 rfl
                obtain rfl : (.bool true : Value) = v2 := Eq.symm r2
                refine W.step [(103, _)] (Sub.cons (e2 _ rfl) (Sub.refl _)) ?_
                refine W.move rfl rfl ?_
                refine W.nil ?_
                exact At.step (Ext.refl _) rfl
              refine And.intro ?_ ?_
              · intro L_ wr hX_ hs_ hf_ hd_
                obtain ⟨v3, e3, r3⟩ := hd_ 3 rfl
                obtain rfl : (.bool true : Value) = v3 := Eq.symm r3
                refine W.step [(104, _)] (Sub.cons (e3 _ rfl) (Sub.refl _)) ?_
                refine W.skips rfl rfl rfl rfl rfl rfl ?_
                refine W.nil ?_
                exact At.step (Ext.refl _) rfl
              refine And.intro ?_ ?_
              · intro L_ wr hX_ hs_ hf_ hd_
                obtain ⟨v3, e3, r3⟩ := hd_ 3 rfl
                obtain rfl : (.bool true : Value) = v3 := Eq.symm r3
                refine W.step [(104, _)] (Sub.cons (e3 _ rfl) (Sub.refl _)) ?_
                refine W.skips rfl rfl rfl rfl rfl rfl ?_
                refine W.nil ?_
                exact At.step (Ext.refl _) rfl
              refine And.intro ?_ ?_
              · intro L_ wr hX_ hs_ hf_ hd_
                obtain ⟨v3, e3, r3⟩ := hd_ 3 rfl
                obtain rfl : (.bool true : Value) = v3 := Eq.symm r3
                refine W.step [(104, _)] (Sub.cons (e3 _ rfl) (Sub.refl _)) ?_
                refine W.skips rfl rfl rfl rfl rfl rfl ?_
                refine W.nil ?_
                exact At.step (Ext.refl _) rfl
              refine And.intro ?_ ?_
              · intro L_ wr hX_ hs_ hf_ hd_
                obtain ⟨v3, e3, r3⟩ := hd_ 3 rfl
                obtain rfl : (.bool true : Value) = v3 := Eq.symm r3
                refine W.step [(104, _)] (Sub.cons (e3 _ rfl) (Sub.refl _)) ?_
                refine W.skips rfl rfl rfl rfl rfl rfl ?_
                refine W.nil ?_
                exact At.step (Ext.refl _) rfl
              refine And.intro ?_ ?_
              · intro L_ wr hX_ hs_ hf_ hd_
                obtain ⟨v3, e3, r3⟩ := hd_ 3 rfl
                obtain rfl : (.bool true : Value) = v3 := Eq.symm r3
                refine W.step [(104, _)] (Sub.cons (e3 _ rfl) (Sub.refl _)) ?_
                refine W.skips rfl rfl rfl rfl rfl rfl ?_
                refine W.nil ?_
                exact At.step (Ext.refl _) rfl
              refine And.intro ?_ ?_
              · intro L_ wr hX_ hs_ hf_ hd_
                obtain ⟨v3, e3, r3⟩ := hd_ 3 rfl
                obtain rfl : (.bool true : Value) = v3 := Eq.symm r3
                refine W.step [(104, _)] (Sub.cons (e3 _ rfl) (Sub.refl _)) ?_
                refine W.skips rfl rfl rfl rfl rfl rfl ?_
                refine W.nil ?_
                exact At.step (Ext.refl _) rfl
              refine And.intro ?_ ?_
              · intro L_ wr hX_ hs_ hf_ hd_
                obtain ⟨v3, e3, r3⟩ := hd_ 3 rfl
                obtain rfl : (.bool true : Value) = v3 := Eq.symm r3
                obtain ⟨v9, e9, r9⟩ := hd_ 9 rfl
                obtain rfl : (undef : Value) = v9 := Eq.symm r9
                refine W.step [(104, _), (110, _)] (Sub.cons (e3 _ rfl) (Sub.cons (e9 _ rfl) (Sub.refl _))) ?_
                refine W.pickT rfl rfl rfl ?_
                refine W.nil ?_
                exact At.step (Ext.refl _) rfl
              refine And.intro ?_ ?_
              · intro L_ wr hX_ hs_ hf_ hd_
                obtain ⟨v10, e10, r10⟩ := hd_ 10 rfl
                obtain rfl : (.bool true : Value) = v10 := Eq.symm r10
                refine W.step [(111, _)] (Sub.cons (e10 _ rfl) (Sub.refl _)) ?_
                refine W.assign rfl rfl ?_
                refine W.nil ?_
                exact At.step (Ext.refl _) rfl
              exact trivial
            · intro L_ wr hX20 hs_ hv_
              obtain ⟨v11, e11, r11⟩ := hv_ 11 (by decide)
              obtain rfl : (.bool true : Value) = v11 := Eq.symm r11
              refine W.weaken (l' := [(2, _), (0, _), (16, _), (17, _)]) (Sub.cons (e11 _ rfl) (Sub.cons (hs_ _ _ rfl) (Sub.cons (hs_ _ _ rfl) (Sub.cons (hs_ _ _ rfl) (Sub.nil))))) ?_
              refine W.nil ?_
              refine At.thenCode ?_
              refine C.ret ?_
              refine At.ret1 Try.results9 rfl ?_
              first
              | exact ⟨rfl, Ext.below (hX99a.ext hX20)⟩
              | exact ⟨rfl, Ext.below hX18⟩
      · have hbB := hb53
        have hXB := hX53a
        refine C.skip ?_
        refine At.thenCode ?_
        refine C.seq ?_
        refine C.region ?_
        refine W.move rfl rfl ?_
        refine W.call Try.call23 rfl (Cod.ReadBatch_ok ao c b _ hbB hlen) rfl ?_
        rintro v75 w75 ⟨vi75, vl75, rfl, hI75, hL75, hX75⟩
        obtain ⟨xr, hxr⟩ : ∃ xr, xr = batR b := ⟨_, rfl⟩
        have hxg := bat_again b
        have hxo := batR_ok b
        rw [← hxr] at hI75 hL75 hxg hxo ⊢
        have hvi := rNums.one hI75 vi75 (by simp)
        have hvl := (rSl 33 rLet).one hL75 vl75 (by simp)
        refine W.move rfl rfl ?_
        refine W.extract rfl rfl rfl ?_
        refine W.extract rfl rfl rfl ?_
        refine W.alloc (z := .agg zeroBatC.toArray) zeroBatC (by kernel_rfl) rfl rfl ?_
        intro g12 w12 hg12 hX12 hB12
        refine W.storeA (batC xr vi75 vl75) rfl rfl hB12 rfl (by kernel_rfl) (batC_one _ hvi hvl) ?_
        intro w76 hc76 hB76
        have hX76 : Ext w75 w76 := hX12.news hc76 fun k hk => Or.inr (by omega)
        have hI76 : RNums (fun _ => False) w76 [vi75] xr.inner := rNums.new (RdOk.ext rNums hI75 hX76) fun k h _ => h.elim
        have hL76 : RSl 33 RLet (fun _ => False) w76 [vl75] xr.lets := (rSl 33 rLet).new (RdOk.ext (rSl 33 rLet) hL75 hX76) fun k h _ => h.elim
        have hb76 := (hbB.ext hX75).ext hX76
        have hX76a := (hXB.ext hX75).ext hX76
        refine W.assign rfl rfl ?_
        refine W.nil ?_
        refine At.thenCode ?_
        refine C.seq ?_
        refine C.seq ?_
        refine C.region ?_
        refine W.move rfl rfl ?_
        refine W.call Try.call14 rfl (Law11.num_ok _ _) rfl ?_
        rintro v79 w79 ⟨rfl, rfl⟩
        refine W.eqlI rfl rfl rfl ?_
        refine W.nil ?_
        refine At.thenCode ?_
        first | refine C.condD rfl (fun c80 => ?_) (fun c80 => ?_) | refine C.cond rfl (fun c80 => ?_) (fun c80 => ?_)
        · have h2 : batRE b = 0 := by omega
          obtain ⟨n1, n2⟩ := hxg h2
          obtain ⟨n3, n4, n5⟩ := bat_small n1
          refine C.seq ?_
          refine C.region ?_
          refine W.loadA rfl (hB76.cells (o := 0)) Try.underlying60 rfl (by kernel_rfl) rfl ?_
          rw [List.drop_zero]
          refine W.call Try.call31 rfl (Cod.Batch_ok xr vi75 vl75 _ hI76 hL76 hxo (by omega) (by omega) (fun p hp => by have := n5 p hp; omega)) rfl ?_
          rintro v83 w83 ⟨ao83, c83, rfl, hN83, hX83⟩
          rw [n1, n2] at *
          refine W.move rfl rfl ?_
          refine W.extract rfl rfl rfl ?_
          refine W.extract rfl rfl rfl ?_
          refine W.assign rfl rfl ?_
          refine W.assign rfl rfl ?_
          refine W.nil ?_
          refine At.thenCode ?_
          refine C.seq ?_
          refine C.region ?_
          refine W.move rfl rfl ?_
          refine W.call Try.call14 rfl (Law11.num_ok _ _) rfl ?_
          rintro v87 w87 ⟨rfl, rfl⟩
          refine W.neqI rfl rfl rfl ?_
          refine W.eqv (bF (fun h => h rfl)) ?_
          refine W.move rfl rfl ?_
          refine W.wants rfl rfl rfl rfl ?_
          refine W.move rfl rfl ?_
          refine W.wants rfl rfl rfl rfl ?_
          refine W.bytesStr Try.underlying27 Try.underlying5 Try.underlying9 rfl hN83.1 rfl ?_
          refine W.wants rfl rfl rfl rfl ?_
          refine W.move rfl rfl ?_
          refine W.wants rfl rfl rfl rfl ?_
          refine W.bytesStr Try.underlying27 Try.underlying5 Try.underlying9 rfl (hb76.ext hX83) rfl ?_
          refine W.wants rfl rfl rfl rfl ?_
          refine W.neqStr rfl rfl rfl ?_
          refine W.eqv (bF (fun h => h rfl)) ?_
          refine W.pickF rfl rfl rfl ?_
          refine W.nil ?_
          refine At.thenCode ?_
          refine C.condF rfl ?_
          -- known too
          have hbC := hb76.ext hX83
          have hXC := hX76a.ext hX83
          refine C.skip ?_
          refine At.thenCode ?_
          refine C.seq ?_
          refine C.region ?_
          refine W.move rfl rfl ?_
          refine W.call Try.call12 rfl (Cod.ReadNote_ok ao c b _ hbC hlen) rfl ?_
          rintro v98 w98 ⟨rfl, hX98⟩
          obtain ⟨nr, hnr⟩ : ∃ nr, nr = noteR b := ⟨_, rfl⟩
          have hng := note_again b
          have hno := noteR_ok b
          rw [← hnr] at hng hno ⊢
          have hnl := noteC_length hno
          refine W.move rfl rfl ?_
          refine W.extract rfl rfl rfl ?_
          refine W.extract rfl rfl rfl ?_
          refine W.alloc (z := .agg zeroNoteC.toArray) zeroNoteC (by kernel_rfl) rfl rfl ?_
          intro g16 w16 hg16 hX16 hB16
          refine W.storeA (noteC nr) rfl rfl hB16 (by rw [hnl]; rfl) (by rw [hnl]; kernel_rfl) (noteC_one _) ?_
          intro w99 hc99 hB99
          have hX99 : Ext w98 w99 := hX16.news hc99 fun k hk => Or.inr (by omega)
          have hb99 := (hbC.ext hX98).ext hX99
          have hX99a := (hXC.ext hX98).ext hX99
          refine W.assign rfl rfl ?_
          refine W.nil ?_
          refine At.thenCode ?_
          refine C.seq ?_
          by_cases hz : noteRE b = 0
          · refine C.regionAny 12 ((fun v w => v = .int .i64 (noteRE b : Int)) :: (fun v w => v = .int .i64 (noteRE b : Int)) :: (fun v w => v = .bool false) :: (fun v w => v = .bool false) :: (fun v w => v = .agg (noteC nr).toArray) :: (fun v w => Rep w v b) :: (fun v w => v = strV b) :: (fun v w => v = .slice ao b.length c) :: (fun v w => v = strV b) :: (fun v w => v = .bool true) :: (fun v w => v = .bool true) :: (fun v w => v = .bool true) :: []) [(0, .slice ao b.length c), (16, .pointer (some ⟨g16, 0, none⟩)), (17, .int .i64 (noteRE b : Int))] [] (Sub.cons (rfl) (Sub.cons (rfl) (Sub.cons (rfl) (Sub.nil)))) (Sub.nil) (Sub.cons (rfl) (Sub.cons (rfl) (Sub.cons (rfl) (Sub.nil)))) (by kernel_rfl) rfl rfl rfl (And.intro (fun _ _ _ h _ => h) (And.intro (fun _ _ _ h _ => h) (And.intro (fun _ _ _ h _ => h) (And.intro (fun _ _ _ h _ => h) (And.intro (fun _ _ _ h _ => h) (And.intro (fun _ _ _ h g => h.ext g) (And.intro (fun _ _ _ h _ => h) (And.intro (fun _ _ _ h _ => h) (And.intro (fun _ _ _ h _ => h) (And.intro (fun _ _ _ h _ => h) (And.intro (fun _ _ _ h _ => h) (And.intro (fun _ _ _ h _ => h) (trivial))))))))))))) ?_ ?_
            · refine And.intro ?_ ?_
              · intro L_ wr hX_ hs_ hf_ hd_
                refine W.step [(17, _)] (Sub.cons (hs_ _ _ rfl) (Sub.refl _)) ?_
                refine W.move rfl rfl ?_
                refine W.nil ?_
                exact At.step (Ext.refl _) rfl
              refine And.intro ?_ ?_
              · intro L_ wr hX_ hs_ hf_ hd_
                obtain ⟨v0, e0, r0⟩ := hd_ 0 rfl
                obtain rfl : (.int .i64 (noteRE b : Int) : Value) = v0 := Eq.symm r0
                refine W.step [(101, _)] (Sub.cons (e0 _ rfl) (Sub.refl _)) ?_
                refine W.call Try.call14 rfl (Law11.num_ok _ _) rfl ?_
                rintro v102 w102 ⟨rfl, rfl⟩
                refine W.nil ?_
                exact At.step (Ext.refl _) rfl
              refine And.intro ?_ ?_
              · intro L_ wr hX_ hs_ hf_ hd_
                obtain ⟨v1, e1, r1⟩ := hd_ 1 rfl
                obtain rfl : (.int .i64 (noteRE b : Int) : Value) = v1 := Eq.symm r1
                refine W.step [(102, _)] (Sub.cons (e1 _ rfl) (Sub.refl _)) ?_
                refine W.neqI rfl rfl rfl ?_
                refine W.eqv (bF (by omega)) ?_
                refine W.nil ?_
                exact At.step (Ext.refl _) rfl
              refine And.intro ?_ ?_
              · intro L_ wr hX_ hs_ hf_ hd_
                obtain ⟨v2, e2, r2⟩ := hd_ 2 rfl
                obtain rfl : (.bool false : Value) = v2 := Eq.symm r2
                refine W.step [(103, _)] (Sub.cons (e2 _ rfl) (Sub.refl _)) ?_
                refine W.move rfl rfl ?_
                refine W.nil ?_
                exact At.step (Ext.refl _) rfl
              refine And.intro ?_ ?_
              · intro L_ wr hX_ hs_ hf_ hd_
                obtain ⟨v3, e3, r3⟩ := hd_ 3 rfl
                obtain rfl : (.bool false : Value) = v3 := Eq.symm r3
                refine W.step [(16, _), (104, _)] (Sub.cons (hs_ _ _ rfl) (Sub.cons (e3 _ rfl) (Sub.refl _))) ?_
                refine W.wants rfl rfl rfl rfl ?_
                refine W.loadA rfl ((hB99.ext hX_).cells (o := 0)) Try.underlying25 rfl (by rw [List.drop_zero, hnl]; kernel_rfl) rfl ?_
                rw [List.drop_zero]
                refine W.nil ?_
                exact At.step (Ext.refl _) rfl
              refine And.intro ?_ ?_
              · intro L_ wr hX_ hs_ hf_ hd_
                obtain ⟨v4, e4, r4⟩ := hd_ 4 rfl
                obtain rfl : (.agg (noteC nr).toArray : Value) = v4 := Eq.symm r4
                obtain ⟨v3, e3, r3⟩ := hd_ 3 rfl
                obtain rfl : (.bool false : Value) = v3 := Eq.symm r3
                refine W.step [(105, _), (104, _)] (Sub.cons (e4 _ rfl) (Sub.cons (e3 _ rfl) (Sub.refl _))) ?_
                refine W.wants rfl rfl rfl rfl ?_
                refine W.call Try.call11 rfl (Cod.Note_ok nr _ hno) rfl ?_
                rintro v106 w106 ⟨ao106, c106, rfl, hN106, hX106⟩
                refine W.nil ?_
                exact At.step hX106 (by have := hng hz; rw [this] at hN106; exact ⟨ao106, c106, by rw [this], hN106.1⟩)
              refine And.intro ?_ ?_
              · intro L_ wr hX_ hs_ hf_ hd_
                obtain ⟨v5, e5, r5⟩ := hd_ 5 rfl
                obtain ⟨a5, c5, rfl, hb5⟩ := r5
                obtain ⟨v3, e3, r3⟩ := hd_ 3 rfl
                obtain rfl : (.bool false : Value) = v3 := Eq.symm r3
                refine W.step [(106, _), (104, _)] (Sub.cons (e5 _ rfl) (Sub.cons (e3 _ rfl) (Sub.refl _))) ?_
                refine W.wants rfl rfl rfl rfl ?_
                refine W.bytesStr Try.underlying27 Try.underlying5 Try.underlying9 rfl hb5 rfl ?_
                refine W.nil ?_
                exact At.step (Ext.refl _) rfl
              refine And.intro ?_ ?_
              · intro L_ wr hX_ hs_ hf_ hd_
                obtain ⟨v3, e3, r3⟩ := hd_ 3 rfl
                obtain rfl : (.bool false : Value) = v3 := Eq.symm r3
                refine W.step [(0, _), (104, _)] (Sub.cons (hs_ _ _ rfl) (Sub.cons (e3 _ rfl) (Sub.refl _))) ?_
                refine W.wants rfl rfl rfl rfl ?_
                refine W.move rfl rfl ?_
                refine W.nil ?_
                exact At.step (Ext.refl _) rfl
              refine And.intro ?_ ?_
              · intro L_ wr hX_ hs_ hf_ hd_
                obtain ⟨v7, e7, r7⟩ := hd_ 7 rfl
                obtain rfl : (.slice ao b.length c : Value) = v7 := Eq.symm r7
                obtain ⟨v3, e3, r3⟩ := hd_ 3 rfl
                obtain rfl : (.bool false : Value) = v3 := Eq.symm r3
                refine W.step [(108, _), (104, _)] (Sub.cons (e7 _ rfl) (Sub.cons (e3 _ rfl) (Sub.refl _))) ?_
                refine W.wants rfl rfl rfl rfl ?_
                refine W.bytesStr Try.underlying27 Try.underlying5 Try.underlying9 rfl (hb99.ext hX_) rfl ?_
                refine W.nil ?_
                exact At.step (Ext.refl _) rfl
              refine And.intro ?_ ?_
              · intro L_ wr hX_ hs_ hf_ hd_
                obtain ⟨v6, e6, r6⟩ := hd_ 6 rfl
                obtain rfl : (strV b : Value) = v6 := Eq.symm r6
                obtain ⟨v8, e8, r8⟩ := hd_ 8 rfl
                obtain rfl : (strV b : Value) = v8 := Eq.symm r8
                obtain ⟨v3, e3, r3⟩ := hd_ 3 rfl
                obtain rfl : (.bool false : Value) = v3 := Eq.symm r3
                refine W.step [(107, _), (109, _), (104, _)] (Sub.cons (e6 _ rfl) (Sub.cons (e8 _ rfl) (Sub.cons (e3 _ rfl) (Sub.refl _)))) ?_
                refine W.wants rfl rfl rfl rfl ?_
                refine W.eqlStr rfl rfl rfl ?_
                refine W.eqv (bT (rfl)) ?_
                refine W.nil ?_
                exact At.step (Ext.refl _) rfl
              refine And.intro ?_ ?_
              · intro L_ wr hX_ hs_ hf_ hd_
                obtain ⟨v3, e3, r3⟩ := hd_ 3 rfl
                obtain rfl : (.bool false : Value) = v3 := Eq.symm r3
                obtain ⟨v9, e9, r9⟩ := hd_ 9 rfl
                obtain rfl : (.bool true : Value) = v9 := Eq.symm r9
                refine W.step [(104, _), (110, _)] (Sub.cons (e3 _ rfl) (Sub.cons (e9 _ rfl) (Sub.refl _))) ?_
                refine W.pickF rfl rfl rfl ?_
                refine W.nil ?_
                exact At.step (Ext.refl _) rfl
              refine And.intro ?_ ?_
              · intro L_ wr hX_ hs_ hf_ hd_
                obtain ⟨v10, e10, r10⟩ := hd_ 10 rfl
                obtain rfl : (.bool true : Value) = v10 := Eq.symm r10
                refine W.step [(111, _)] (Sub.cons (e10 _ rfl) (Sub.refl _)) ?_
                refine W.assign rfl rfl ?_
                refine W.nil ?_
                exact At.step (Ext.refl _) rfl
              exact trivial
            · intro L_ wr hX20 hs_ hv_
              obtain ⟨v11, e11, r11⟩ := hv_ 11 (by decide)
              obtain rfl : (.bool true : Value) = v11 := Eq.symm r11
              refine W.weaken (l' := [(2, _), (0, _), (16, _), (17, _)]) (Sub.cons (e11 _ rfl) (Sub.cons (hs_ _ _ rfl) (Sub.cons (hs_ _ _ rfl) (Sub.cons (hs_ _ _ rfl) (Sub.nil))))) ?_
              refine W.nil ?_
              refine At.thenCode ?_
              refine C.ret ?_
              refine At.ret1 Try.results9 rfl ?_
              first
              | exact ⟨rfl, Ext.below (hX99a.ext hX20)⟩
              | exact ⟨rfl, Ext.below hX18⟩
          · refine C.regionAny 12 ((fun v w => v = .int .i64 (noteRE b : Int)) :: (fun v w => v = .int .i64 (noteRE b : Int)) :: (fun v w => v = .bool true) :: (fun v w => v = .bool true) :: (fun v w => v = undef) :: (fun v w => v = undef) :: (fun v w => v = undef) :: (fun v w => v = undef) :: (fun v w => v = undef) :: (fun v w => v = undef) :: (fun v w => v = .bool true) :: (fun v w => v = .bool true) :: []) [(0, .slice ao b.length c), (16, .pointer (some ⟨g16, 0, none⟩)), (17, .int .i64 (noteRE b : Int))] [] (Sub.cons (rfl) (Sub.cons (rfl) (Sub.cons (rfl) (Sub.nil)))) (Sub.nil) (Sub.cons (rfl) (Sub.cons (rfl) (Sub.cons (rfl) (Sub.nil)))) (by kernel_rfl) rfl rfl rfl (And.intro (fun _ _ _ h _ => h) (And.intro (fun _ _ _ h _ => h) (And.intro (fun _ _ _ h _ => h) (And.intro (fun _ _ _ h _ => h) (And.intro (fun _ _ _ h _ => h) (And.intro (fun _ _ _ h _ => h) (And.intro (fun _ _ _ h _ => h) (And.intro (fun _ _ _ h _ => h) (And.intro (fun _ _ _ h _ => h) (And.intro (fun _ _ _ h _ => h) (And.intro (fun _ _ _ h _ => h) (And.intro (fun _ _ _ h _ => h) (trivial))))))))))))) ?_ ?_
            · refine And.intro ?_ ?_
              · intro L_ wr hX_ hs_ hf_ hd_
                refine W.step [(17, _)] (Sub.cons (hs_ _ _ rfl) (Sub.refl _)) ?_
                refine W.move rfl rfl ?_
                refine W.nil ?_
                exact At.step (Ext.refl _) rfl
              refine And.intro ?_ ?_
              · intro L_ wr hX_ hs_ hf_ hd_
                obtain ⟨v0, e0, r0⟩ := hd_ 0 rfl
                obtain rfl : (.int .i64 (noteRE b : Int) : Value) = v0 := Eq.symm r0
                refine W.step [(101, _)] (Sub.cons (e0 _ rfl) (Sub.refl _)) ?_
                refine W.call Try.call14 rfl (Law11.num_ok _ _) rfl ?_
                rintro v102 w102 ⟨rfl, rfl⟩
                refine W.nil ?_
                exact At.step (Ext.refl _) rfl
              refine And.intro ?_ ?_
              · intro L_ wr hX_ hs_ hf_ hd_
                obtain ⟨v1, e1, r1⟩ := hd_ 1 rfl
                obtain rfl : (.int .i64 (noteRE b : Int) : Value) = v1 := Eq.symm r1
                refine W.step [(102, _)] (Sub.cons (e1 _ rfl) (Sub.refl _)) ?_
                refine W.neqI rfl rfl rfl ?_
                refine W.eqv (bT (by omega)) ?_
                refine W.nil ?_
                exact At.step (Ext.refl _) rfl
              refine And.intro ?_ ?_
              · intro L_ wr hX_ hs_ hf_ hd_
                obtain ⟨v2, e2, r2⟩ := hd_ 2 rfl
                obtain rfl : (.bool true : Value) = v2 := Eq.symm r2
                refine W.step [(103, _)] (Sub.cons (e2 _ rfl) (Sub.refl _)) ?_
                refine W.move rfl rfl ?_
                refine W.nil ?_
                exact At.step (Ext.refl _) rfl
              refine And.intro ?_ ?_
              · intro L_ wr hX_ hs_ hf_ hd_
                obtain ⟨v3, e3, r3⟩ := hd_ 3 rfl
                obtain rfl : (.bool true : Value) = v3 := Eq.symm r3
                refine W.step [(104, _)] (Sub.cons (e3 _ rfl) (Sub.refl _)) ?_
                refine W.skips rfl rfl rfl rfl rfl rfl ?_
                refine W.nil ?_
                exact At.step (Ext.refl _) rfl
              refine And.intro ?_ ?_
              · intro L_ wr hX_ hs_ hf_ hd_
                obtain ⟨v3, e3, r3⟩ := hd_ 3 rfl
                obtain rfl : (.bool true : Value) = v3 := Eq.symm r3
                refine W.step [(104, _)] (Sub.cons (e3 _ rfl) (Sub.refl _)) ?_
                refine W.skips rfl rfl rfl rfl rfl rfl ?_
                refine W.nil ?_
                exact At.step (Ext.refl _) rfl
              refine And.intro ?_ ?_
              · intro L_ wr hX_ hs_ hf_ hd_
                obtain ⟨v3, e3, r3⟩ := hd_ 3 rfl
                obtain rfl : (.bool true : Value) = v3 := Eq.symm r3
                refine W.step [(104, _)] (Sub.cons (e3 _ rfl) (Sub.refl _)) ?_
                refine W.skips rfl rfl rfl rfl rfl rfl ?_
                refine W.nil ?_
                exact At.step (Ext.refl _) rfl
              refine And.intro ?_ ?_
              · intro L_ wr hX_ hs_ hf_ hd_
                obtain ⟨v3, e3, r3⟩ := hd_ 3 rfl
                obtain rfl : (.bool true : Value) = v3 := Eq.symm r3
                refine W.step [(104, _)] (Sub.cons (e3 _ rfl) (Sub.refl _)) ?_
                refine W.skips rfl rfl rfl rfl rfl rfl ?_
                refine W.nil ?_
                exact At.step (Ext.refl _) rfl
              refine And.intro ?_ ?_
              · intro L_ wr hX_ hs_ hf_ hd_
                obtain ⟨v3, e3, r3⟩ := hd_ 3 rfl
                obtain rfl : (.bool true : Value) = v3 := Eq.symm r3
                refine W.step [(104, _)] (Sub.cons (e3 _ rfl) (Sub.refl _)) ?_
                refine W.skips rfl rfl rfl rfl rfl rfl ?_
                refine W.nil ?_
                exact At.step (Ext.refl _) rfl
              refine And.intro ?_ ?_
              · intro L_ wr hX_ hs_ hf_ hd_
                obtain ⟨v3, e3, r3⟩ := hd_ 3 rfl
                obtain rfl : (.bool true : Value) = v3 := Eq.symm r3
                refine W.step [(104, _)] (Sub.cons (e3 _ rfl) (Sub.refl _)) ?_
                refine W.skips rfl rfl rfl rfl rfl rfl ?_
                refine W.nil ?_
                exact At.step (Ext.refl _) rfl
              refine And.intro ?_ ?_
              · intro L_ wr hX_ hs_ hf_ hd_
                obtain ⟨v3, e3, r3⟩ := hd_ 3 rfl
                obtain rfl : (.bool true : Value) = v3 := Eq.symm r3
                obtain ⟨v9, e9, r9⟩ := hd_ 9 rfl
                obtain rfl : (undef : Value) = v9 := Eq.symm r9
                refine W.step [(104, _), (110, _)] (Sub.cons (e3 _ rfl) (Sub.cons (e9 _ rfl) (Sub.refl _))) ?_
                refine W.pickT rfl rfl rfl ?_
                refine W.nil ?_
                exact At.step (Ext.refl _) rfl
              refine And.intro ?_ ?_
              · intro L_ wr hX_ hs_ hf_ hd_
                obtain ⟨v10, e10, r10⟩ := hd_ 10 rfl
                obtain rfl : (.bool true : Value) = v10 := Eq.symm r10
                refine W.step [(111, _)] (Sub.cons (e10 _ rfl) (Sub.refl _)) ?_
                refine W.assign rfl rfl ?_
                refine W.nil ?_
                exact At.step (Ext.refl _) rfl
              exact trivial
            · intro L_ wr hX20 hs_ hv_
              obtain ⟨v11, e11, r11⟩ := hv_ 11 (by decide)
              obtain rfl : (.bool true : Value) = v11 := Eq.symm r11
              refine W.weaken (l' := [(2, _), (0, _), (16, _), (17, _)]) (Sub.cons (e11 _ rfl) (Sub.cons (hs_ _ _ rfl) (Sub.cons (hs_ _ _ rfl) (Sub.cons (hs_ _ _ rfl) (Sub.nil))))) ?_
              refine W.nil ?_
              refine At.thenCode ?_
              refine C.ret ?_
              refine At.ret1 Try.results9 rfl ?_
              first
              | exact ⟨rfl, Ext.below (hX99a.ext hX20)⟩
              | exact ⟨rfl, Ext.below hX18⟩
        · have hbC := hb76
          have hXC := hX76a
          refine C.skip ?_
          refine At.thenCode ?_
          refine C.seq ?_
          refine C.region ?_
          refine W.move rfl rfl ?_
          refine W.call Try.call12 rfl (Cod.ReadNote_ok ao c b _ hbC hlen) rfl ?_
          rintro v98 w98 ⟨rfl, hX98⟩
          obtain ⟨nr, hnr⟩ : ∃ nr, nr = noteR b := ⟨_, rfl⟩
          have hng := note_again b
          have hno := noteR_ok b
          rw [← hnr] at hng hno ⊢
          have hnl := noteC_length hno
          refine W.move rfl rfl ?_
          refine W.extract rfl rfl rfl ?_
          refine W.extract rfl rfl rfl ?_
          refine W.alloc (z := .agg zeroNoteC.toArray) zeroNoteC (by kernel_rfl) rfl rfl ?_
          intro g16 w16 hg16 hX16 hB16
          refine W.storeA (noteC nr) rfl rfl hB16 (by rw [hnl]; rfl) (by rw [hnl]; kernel_rfl) (noteC_one _) ?_
          intro w99 hc99 hB99
          have hX99 : Ext w98 w99 := hX16.news hc99 fun k hk => Or.inr (by omega)
          have hb99 := (hbC.ext hX98).ext hX99
          have hX99a := (hXC.ext hX98).ext hX99
          refine W.assign rfl rfl ?_
          refine W.nil ?_
          refine At.thenCode ?_
          refine C.seq ?_
          by_cases hz : noteRE b = 0
          · refine C.regionAny 12 ((fun v w => v = .int .i64 (noteRE b : Int)) :: (fun v w => v = .int .i64 (noteRE b : Int)) :: (fun v w => v = .bool false) :: (fun v w => v = .bool false) :: (fun v w => v = .agg (noteC nr).toArray) :: (fun v w => Rep w v b) :: (fun v w => v = strV b) :: (fun v w => v = .slice ao b.length c) :: (fun v w => v = strV b) :: (fun v w => v = .bool true) :: (fun v w => v = .bool true) :: (fun v w => v = .bool true) :: []) [(0, .slice ao b.length c), (16, .pointer (some ⟨g16, 0, none⟩)), (17, .int .i64 (noteRE b : Int))] [] (Sub.cons (rfl) (Sub.cons (rfl) (Sub.cons (rfl) (Sub.nil)))) (Sub.nil) (Sub.cons (rfl) (Sub.cons (rfl) (Sub.cons (rfl) (Sub.nil)))) (by kernel_rfl) rfl rfl rfl (And.intro (fun _ _ _ h _ => h) (And.intro (fun _ _ _ h _ => h) (And.intro (fun _ _ _ h _ => h) (And.intro (fun _ _ _ h _ => h) (And.intro (fun _ _ _ h _ => h) (And.intro (fun _ _ _ h g => h.ext g) (And.intro (fun _ _ _ h _ => h) (And.intro (fun _ _ _ h _ => h) (And.intro (fun _ _ _ h _ => h) (And.intro (fun _ _ _ h _ => h) (And.intro (fun _ _ _ h _ => h) (And.intro (fun _ _ _ h _ => h) (trivial))))))))))))) ?_ ?_
            · refine And.intro ?_ ?_
              · intro L_ wr hX_ hs_ hf_ hd_
                refine W.step [(17, _)] (Sub.cons (hs_ _ _ rfl) (Sub.refl _)) ?_
                refine W.move rfl rfl ?_
                refine W.nil ?_
                exact At.step (Ext.refl _) rfl
              refine And.intro ?_ ?_
              · intro L_ wr hX_ hs_ hf_ hd_
                obtain ⟨v0, e0, r0⟩ := hd_ 0 rfl
                obtain rfl : (.int .i64 (noteRE b : Int) : Value) = v0 := Eq.symm r0
                refine W.step [(101, _)] (Sub.cons (e0 _ rfl) (Sub.refl _)) ?_
                refine W.call Try.call14 rfl (Law11.num_ok _ _) rfl ?_
                rintro v102 w102 ⟨rfl, rfl⟩
                refine W.nil ?_
                exact At.step (Ext.refl _) rfl
              refine And.intro ?_ ?_
              · intro L_ wr hX_ hs_ hf_ hd_
                obtain ⟨v1, e1, r1⟩ := hd_ 1 rfl
                obtain rfl : (.int .i64 (noteRE b : Int) : Value) = v1 := Eq.symm r1
                refine W.step [(102, _)] (Sub.cons (e1 _ rfl) (Sub.refl _)) ?_
                refine W.neqI rfl rfl rfl ?_
                refine W.eqv (bF (by omega)) ?_
                refine W.nil ?_
                exact At.step (Ext.refl _) rfl
              refine And.intro ?_ ?_
              · intro L_ wr hX_ hs_ hf_ hd_
                obtain ⟨v2, e2, r2⟩ := hd_ 2 rfl
                obtain rfl : (.bool false : Value) = v2 := Eq.symm r2
                refine W.step [(103, _)] (Sub.cons (e2 _ rfl) (Sub.refl _)) ?_
                refine W.move rfl rfl ?_
                refine W.nil ?_
                exact At.step (Ext.refl _) rfl
              refine And.intro ?_ ?_
              · intro L_ wr hX_ hs_ hf_ hd_
                obtain ⟨v3, e3, r3⟩ := hd_ 3 rfl
                obtain rfl : (.bool false : Value) = v3 := Eq.symm r3
                refine W.step [(16, _), (104, _)] (Sub.cons (hs_ _ _ rfl) (Sub.cons (e3 _ rfl) (Sub.refl _))) ?_
                refine W.wants rfl rfl rfl rfl ?_
                refine W.loadA rfl ((hB99.ext hX_).cells (o := 0)) Try.underlying25 rfl (by rw [List.drop_zero, hnl]; kernel_rfl) rfl ?_
                rw [List.drop_zero]
                refine W.nil ?_
                exact At.step (Ext.refl _) rfl
              refine And.intro ?_ ?_
              · intro L_ wr hX_ hs_ hf_ hd_
                obtain ⟨v4, e4, r4⟩ := hd_ 4 rfl
                obtain rfl : (.agg (noteC nr).toArray : Value) = v4 := Eq.symm r4
                obtain ⟨v3, e3, r3⟩ := hd_ 3 rfl
                obtain rfl : (.bool false : Value) = v3 := Eq.symm r3
                refine W.step [(105, _), (104, _)] (Sub.cons (e4 _ rfl) (Sub.cons (e3 _ rfl) (Sub.refl _))) ?_
                refine W.wants rfl rfl rfl rfl ?_
                refine W.call Try.call11 rfl (Cod.Note_ok nr _ hno) rfl ?_
                rintro v106 w106 ⟨ao106, c106, rfl, hN106, hX106⟩
                refine W.nil ?_
                exact At.step hX106 (by have := hng hz; rw [this] at hN106; exact ⟨ao106, c106, by rw [this], hN106.1⟩)
              refine And.intro ?_ ?_
              · intro L_ wr hX_ hs_ hf_ hd_
                obtain ⟨v5, e5, r5⟩ := hd_ 5 rfl
                obtain ⟨a5, c5, rfl, hb5⟩ := r5
                obtain ⟨v3, e3, r3⟩ := hd_ 3 rfl
                obtain rfl : (.bool false : Value) = v3 := Eq.symm r3
                refine W.step [(106, _), (104, _)] (Sub.cons (e5 _ rfl) (Sub.cons (e3 _ rfl) (Sub.refl _))) ?_
                refine W.wants rfl rfl rfl rfl ?_
                refine W.bytesStr Try.underlying27 Try.underlying5 Try.underlying9 rfl hb5 rfl ?_
                refine W.nil ?_
                exact At.step (Ext.refl _) rfl
              refine And.intro ?_ ?_
              · intro L_ wr hX_ hs_ hf_ hd_
                obtain ⟨v3, e3, r3⟩ := hd_ 3 rfl
                obtain rfl : (.bool false : Value) = v3 := Eq.symm r3
                refine W.step [(0, _), (104, _)] (Sub.cons (hs_ _ _ rfl) (Sub.cons (e3 _ rfl) (Sub.refl _))) ?_
                refine W.wants rfl rfl rfl rfl ?_
                refine W.move rfl rfl ?_
                refine W.nil ?_
                exact At.step (Ext.refl _) rfl
              refine And.intro ?_ ?_
              · intro L_ wr hX_ hs_ hf_ hd_
                obtain ⟨v7, e7, r7⟩ := hd_ 7 rfl
                obtain rfl : (.slice ao b.length c : Value) = v7 := Eq.symm r7
                obtain ⟨v3, e3, r3⟩ := hd_ 3 rfl
                obtain rfl : (.bool false : Value) = v3 := Eq.symm r3
                refine W.step [(108, _), (104, _)] (Sub.cons (e7 _ rfl) (Sub.cons (e3 _ rfl) (Sub.refl _))) ?_
                refine W.wants rfl rfl rfl rfl ?_
                refine W.bytesStr Try.underlying27 Try.underlying5 Try.underlying9 rfl (hb99.ext hX_) rfl ?_
                refine W.nil ?_
                exact At.step (Ext.refl _) rfl
              refine And.intro ?_ ?_
              · intro L_ wr hX_ hs_ hf_ hd_
                obtain ⟨v6, e6, r6⟩ := hd_ 6 rfl
                obtain rfl : (strV b : Value) = v6 := Eq.symm r6
                obtain ⟨v8, e8, r8⟩ := hd_ 8 rfl
                obtain rfl : (strV b : Value) = v8 := Eq.symm r8
                obtain ⟨v3, e3, r3⟩ := hd_ 3 rfl
                obtain rfl : (.bool false : Value) = v3 := Eq.symm r3
                refine W.step [(107, _), (109, _), (104, _)] (Sub.cons (e6 _ rfl) (Sub.cons (e8 _ rfl) (Sub.cons (e3 _ rfl) (Sub.refl _)))) ?_
                refine W.wants rfl rfl rfl rfl ?_
                refine W.eqlStr rfl rfl rfl ?_
                refine W.eqv (bT (rfl)) ?_
                refine W.nil ?_
                exact At.step (Ext.refl _) rfl
              refine And.intro ?_ ?_
              · intro L_ wr hX_ hs_ hf_ hd_
                obtain ⟨v3, e3, r3⟩ := hd_ 3 rfl
                obtain rfl : (.bool false : Value) = v3 := Eq.symm r3
                obtain ⟨v9, e9, r9⟩ := hd_ 9 rfl
                obtain rfl : (.bool true : Value) = v9 := Eq.symm r9
                refine W.step [(104, _), (110, _)] (Sub.cons (e3 _ rfl) (Sub.cons (e9 _ rfl) (Sub.refl _))) ?_
                refine W.pickF rfl rfl rfl ?_
                refine W.nil ?_
                exact At.step (Ext.refl _) rfl
              refine And.intro ?_ ?_
              · intro L_ wr hX_ hs_ hf_ hd_
                obtain ⟨v10, e10, r10⟩ := hd_ 10 rfl
                obtain rfl : (.bool true : Value) = v10 := Eq.symm r10
                refine W.step [(111, _)] (Sub.cons (e10 _ rfl) (Sub.refl _)) ?_
                refine W.assign rfl rfl ?_
                refine W.nil ?_
                exact At.step (Ext.refl _) rfl
              exact trivial
            · intro L_ wr hX20 hs_ hv_
              obtain ⟨v11, e11, r11⟩ := hv_ 11 (by decide)
              obtain rfl : (.bool true : Value) = v11 := Eq.symm r11
              refine W.weaken (l' := [(2, _), (0, _), (16, _), (17, _)]) (Sub.cons (e11 _ rfl) (Sub.cons (hs_ _ _ rfl) (Sub.cons (hs_ _ _ rfl) (Sub.cons (hs_ _ _ rfl) (Sub.nil))))) ?_
              refine W.nil ?_
              refine At.thenCode ?_
              refine C.ret ?_
              refine At.ret1 Try.results9 rfl ?_
              first
              | exact ⟨rfl, Ext.below (hX99a.ext hX20)⟩
              | exact ⟨rfl, Ext.below hX18⟩
          · refine C.regionAny 12 ((fun v w => v = .int .i64 (noteRE b : Int)) :: (fun v w => v = .int .i64 (noteRE b : Int)) :: (fun v w => v = .bool true) :: (fun v w => v = .bool true) :: (fun v w => v = undef) :: (fun v w => v = undef) :: (fun v w => v = undef) :: (fun v w => v = undef) :: (fun v w => v = undef) :: (fun v w => v = undef) :: (fun v w => v = .bool true) :: (fun v w => v = .bool true) :: []) [(0, .slice ao b.length c), (16, .pointer (some ⟨g16, 0, none⟩)), (17, .int .i64 (noteRE b : Int))] [] (Sub.cons (rfl) (Sub.cons (rfl) (Sub.cons (rfl) (Sub.nil)))) (Sub.nil) (Sub.cons (rfl) (Sub.cons (rfl) (Sub.cons (rfl) (Sub.nil)))) (by kernel_rfl) rfl rfl rfl (And.intro (fun _ _ _ h _ => h) (And.intro (fun _ _ _ h _ => h) (And.intro (fun _ _ _ h _ => h) (And.intro (fun _ _ _ h _ => h) (And.intro (fun _ _ _ h _ => h) (And.intro (fun _ _ _ h _ => h) (And.intro (fun _ _ _ h _ => h) (And.intro (fun _ _ _ h _ => h) (And.intro (fun _ _ _ h _ => h) (And.intro (fun _ _ _ h _ => h) (And.intro (fun _ _ _ h _ => h) (And.intro (fun _ _ _ h _ => h) (trivial))))))))))))) ?_ ?_
            · refine And.intro ?_ ?_
              · intro L_ wr hX_ hs_ hf_ hd_
                refine W.step [(17, _)] (Sub.cons (hs_ _ _ rfl) (Sub.refl _)) ?_
                refine W.move rfl rfl ?_
                refine W.nil ?_
                exact At.step (Ext.refl _) rfl
              refine And.intro ?_ ?_
              · intro L_ wr hX_ hs_ hf_ hd_
                obtain ⟨v0, e0, r0⟩ := hd_ 0 rfl
                obtain rfl : (.int .i64 (noteRE b : Int) : Value) = v0 := Eq.symm r0
                refine W.step [(101, _)] (Sub.cons (e0 _ rfl) (Sub.refl _)) ?_
                refine W.call Try.call14 rfl (Law11.num_ok _ _) rfl ?_
                rintro v102 w102 ⟨rfl, rfl⟩
                refine W.nil ?_
                exact At.step (Ext.refl _) rfl
              refine And.intro ?_ ?_
              · intro L_ wr hX_ hs_ hf_ hd_
                obtain ⟨v1, e1, r1⟩ := hd_ 1 rfl
                obtain rfl : (.int .i64 (noteRE b : Int) : Value) = v1 := Eq.symm r1
                refine W.step [(102, _)] (Sub.cons (e1 _ rfl) (Sub.refl _)) ?_
                refine W.neqI rfl rfl rfl ?_
                refine W.eqv (bT (by omega)) ?_
                refine W.nil ?_
                exact At.step (Ext.refl _) rfl
              refine And.intro ?_ ?_
              · intro L_ wr hX_ hs_ hf_ hd_
                obtain ⟨v2, e2, r2⟩ := hd_ 2 rfl
                obtain rfl : (.bool true : Value) = v2 := Eq.symm r2
                refine W.step [(103, _)] (Sub.cons (e2 _ rfl) (Sub.refl _)) ?_
                refine W.move rfl rfl ?_
                refine W.nil ?_
                exact At.step (Ext.refl _) rfl
              refine And.intro ?_ ?_
              · intro L_ wr hX_ hs_ hf_ hd_
                obtain ⟨v3, e3, r3⟩ := hd_ 3 rfl
                obtain rfl : (.bool true : Value) = v3 := Eq.symm r3
                refine W.step [(104, _)] (Sub.cons (e3 _ rfl) (Sub.refl _)) ?_
                refine W.skips rfl rfl rfl rfl rfl rfl ?_
                refine W.nil ?_
                exact At.step (Ext.refl _) rfl
              refine And.intro ?_ ?_
              · intro L_ wr hX_ hs_ hf_ hd_
                obtain ⟨v3, e3, r3⟩ := hd_ 3 rfl
                obtain rfl : (.bool true : Value) = v3 := Eq.symm r3
                refine W.step [(104, _)] (Sub.cons (e3 _ rfl) (Sub.refl _)) ?_
                refine W.skips rfl rfl rfl rfl rfl rfl ?_
                refine W.nil ?_
                exact At.step (Ext.refl _) rfl
              refine And.intro ?_ ?_
              · intro L_ wr hX_ hs_ hf_ hd_
                obtain ⟨v3, e3, r3⟩ := hd_ 3 rfl
                obtain rfl : (.bool true : Value) = v3 := Eq.symm r3
                refine W.step [(104, _)] (Sub.cons (e3 _ rfl) (Sub.refl _)) ?_
                refine W.skips rfl rfl rfl rfl rfl rfl ?_
                refine W.nil ?_
                exact At.step (Ext.refl _) rfl
              refine And.intro ?_ ?_
              · intro L_ wr hX_ hs_ hf_ hd_
                obtain ⟨v3, e3, r3⟩ := hd_ 3 rfl
                obtain rfl : (.bool true : Value) = v3 := Eq.symm r3
                refine W.step [(104, _)] (Sub.cons (e3 _ rfl) (Sub.refl _)) ?_
                refine W.skips rfl rfl rfl rfl rfl rfl ?_
                refine W.nil ?_
                exact At.step (Ext.refl _) rfl
              refine And.intro ?_ ?_
              · intro L_ wr hX_ hs_ hf_ hd_
                obtain ⟨v3, e3, r3⟩ := hd_ 3 rfl
                obtain rfl : (.bool true : Value) = v3 := Eq.symm r3
                refine W.step [(104, _)] (Sub.cons (e3 _ rfl) (Sub.refl _)) ?_
                refine W.skips rfl rfl rfl rfl rfl rfl ?_
                refine W.nil ?_
                exact At.step (Ext.refl _) rfl
              refine And.intro ?_ ?_
              · intro L_ wr hX_ hs_ hf_ hd_
                obtain ⟨v3, e3, r3⟩ := hd_ 3 rfl
                obtain rfl : (.bool true : Value) = v3 := Eq.symm r3
                refine W.step [(104, _)] (Sub.cons (e3 _ rfl) (Sub.refl _)) ?_
                refine W.skips rfl rfl rfl rfl rfl rfl ?_
                refine W.nil ?_
                exact At.step (Ext.refl _) rfl
              refine And.intro ?_ ?_
              · intro L_ wr hX_ hs_ hf_ hd_
                obtain ⟨v3, e3, r3⟩ := hd_ 3 rfl
                obtain rfl : (.bool true : Value) = v3 := Eq.symm r3
                obtain ⟨v9, e9, r9⟩ := hd_ 9 rfl
                obtain rfl : (undef : Value) = v9 := Eq.symm r9
                refine W.step [(104, _), (110, _)] (Sub.cons (e3 _ rfl) (Sub.cons (e9 _ rfl) (Sub.refl _))) ?_
                refine W.pickT rfl rfl rfl ?_
                refine W.nil ?_
                exact At.step (Ext.refl _) rfl
              refine And.intro ?_ ?_
              · intro L_ wr hX_ hs_ hf_ hd_
                obtain ⟨v10, e10, r10⟩ := hd_ 10 rfl
                obtain rfl : (.bool true : Value) = v10 := Eq.symm r10
                refine W.step [(111, _)] (Sub.cons (e10 _ rfl) (Sub.refl _)) ?_
                refine W.assign rfl rfl ?_
                refine W.nil ?_
                exact At.step (Ext.refl _) rfl
              exact trivial
            · intro L_ wr hX20 hs_ hv_
              obtain ⟨v11, e11, r11⟩ := hv_ 11 (by decide)
              obtain rfl : (.bool true : Value) = v11 := Eq.symm r11
              refine W.weaken (l' := [(2, _), (0, _), (16, _), (17, _)]) (Sub.cons (e11 _ rfl) (Sub.cons (hs_ _ _ rfl) (Sub.cons (hs_ _ _ rfl) (Sub.cons (hs_ _ _ rfl) (Sub.nil))))) ?_
              refine W.nil ?_
              refine At.thenCode ?_
              refine C.ret ?_
              refine At.ret1 Try.results9 rfl ?_
              first
              | exact ⟨rfl, Ext.below (hX99a.ext hX20)⟩
              | exact ⟨rfl, Ext.below hX18⟩
end Go.Proofs.Ytpjdkobmcjgcjaa.Law11
