/- The walks of chapter 5's laws. -/
import Derived.Test.YtkjmllohbohliaaSeal3
namespace Go.Proofs.Ytkjmllohbohliaa.Law5
open Go Go.RowKit Go.Proofs.Ytkjmllohbohliaa.KW Go.Proofs.Ytkjmllohbohliaa.Words Go.Proofs.Ytkjmllohbohliaa.Sha Go.Proofs.Ytkjmllohbohliaa.RSha Go.Proofs.Ytkjmllohbohliaa.Mac Go.Proofs.Ytkjmllohbohliaa.Seal
set_option linter.unusedVariables false
set_option linter.unusedSimpArgs false
set_option maxRecDepth 100000

theorem alive_ok (w : World) : Ct Try.prog 12 #[] w (fun v w' => v = .bool true ∧ Ext w w') := by
  refine Ct.enter [] Try.func12 rfl rfl rfl rfl ?_
  obtain ⟨key, hkey⟩ : ∃ key : List UInt8, key = (1 : UInt8) :: List.replicate 31 0 := ⟨_, rfl⟩
  have hk : key.length = 32 := by rw [hkey]; rfl
  obtain ⟨hop, hov⟩ := open_seal key [] [97, 98, 99]
  have hsl := sealV_length key [] [97, 98, 99]
  refine C.seq ?_
  refine C.region ?_
  refine W.assign rfl rfl ?_
  refine W.nil ?_
  refine At.thenCode ?_
  refine C.seq ?_
  refine C.region ?_
  refine W.buildAF (((1 : UInt8) :: List.replicate 31 0).map byteV) (List.replicate 32 (byteV 0)) X8 Try.underlying23 (by kernel_rfl) rfl rfl rfl ?_
  refine W.eqv (v' := keyV key) (by rw [hkey]; rfl) ?_
  refine W.litB [97, 98, 99] E8 Try.underlying24 rfl rfl rfl rfl rfl ?_
  intro g5 w5 hg5 hX5 ho5 hb5
  have hB5 : ∃ cells, Bk w5 g5 cells := by
    rcases ho5.2 with ⟨h, _⟩ | ⟨q, cap, cur, hv, _, hq, _⟩
    · cases h
    · injection hv with h1 _ _
      injection h1 with h1
      injection h1 with h1
      subst h1
      exact ⟨cur.toList, _, by simpa using hq⟩
  obtain ⟨cells5, hB5⟩ := hB5
  refine W.constB Try.underlying24 Try.underlying5 rfl hB5 hb5 rfl ?_
  intro w6 hc6 hb6
  have hX6 : Ext w w6 := hX5.news hc6 (fun k hk => Or.inr (by omega))
  refine W.call Try.call13 rfl (Seal.Seal_ok key none 0 [] _ _ [97, 98, 99] _ hk (Sl.none _ 1) hb6 (by decide) (by decide)) rfl ?_
  rintro v7 w7 ⟨ho7, hX7⟩
  obtain ⟨a7, c7, rfl, hS7, _⟩ := ownsRow_form ho7
  refine W.assign rfl rfl ?_
  refine W.nil ?_
  refine At.thenCode ?_
  refine C.seq ?_
  refine C.region ?_
  refine W.buildAF (((1 : UInt8) :: List.replicate 31 0).map byteV) (List.replicate 32 (byteV 0)) X8 Try.underlying23 (by kernel_rfl) rfl rfl rfl ?_
  refine W.eqv (v' := keyV key) (by rw [hkey]; rfl) ?_
  refine W.move rfl rfl ?_
  refine W.call Try.call14 rfl (Seal.Open_ok key none 0 [] _ _ _ _ hk (Sl.none _ 1) hS7 (by decide) (by rw [hsl]; decide)) rfl ?_
  rintro v11 w11 ⟨⟨a11, c11, rfl, hS11, _⟩, hX11⟩
  rw [hov, decide_eq_true hop]
  rw [hov] at hS11
  refine W.move rfl rfl ?_
  refine W.extract rfl rfl rfl ?_
  refine W.extract rfl rfl rfl ?_
  refine W.eqv (v' := .bool true) (rfl) ?_
  refine W.assign rfl rfl ?_
  refine W.assign rfl rfl ?_
  refine W.nil ?_
  refine At.thenCode ?_
  refine C.seq ?_
  refine C.region ?_
  refine W.buildAF (List.replicate 32 (byteV 0)) (List.replicate 32 (byteV 0)) X8 Try.underlying23 (by kernel_rfl) rfl rfl rfl ?_
  refine W.eqv (v' := keyV (List.replicate 32 0)) rfl ?_
  refine W.call Try.call13 rfl (Seal.Seal_ok (List.replicate 32 0) none 0 [] none 0 [] _ rfl (Sl.none _ 1) (Sl.none _ 1) (by decide) (by decide)) rfl ?_
  rintro v15 w15 ⟨ho15, hX15⟩
  have hl15 := sealV_length (List.replicate 32 0) [] []
  obtain ⟨a15, c15, rfl, hS15, _⟩ := ownsRow_form ho15
  refine W.lenS rfl Try.underlying24 rfl ?_
  refine W.eqlI rfl rfl rfl ?_
  refine W.eqv (bT (by rw [hl15]; rfl)) ?_
  refine W.move rfl rfl ?_
  refine W.wants rfl rfl rfl rfl ?_
  refine W.move rfl rfl ?_
  refine W.pickT rfl rfl rfl ?_
  refine W.move rfl rfl ?_
  refine W.wants rfl rfl rfl rfl ?_
  refine W.move rfl rfl ?_
  refine W.wants rfl rfl rfl rfl ?_
  refine W.bytesStr Try.underlying24 Try.underlying5 Try.underlying9 rfl (hS11.ext hX15) rfl ?_
  refine W.wants rfl rfl rfl rfl ?_
  refine W.eqlStr (a := [97, 98, 99]) (b := [97, 98, 99]) rfl rfl rfl ?_
  refine W.eqv (bT (rfl)) ?_
  refine W.pickT rfl rfl rfl ?_
  refine W.move rfl rfl ?_
  refine W.wants rfl rfl rfl rfl ?_
  refine W.move rfl rfl ?_
  refine W.wants rfl rfl rfl rfl ?_
  refine W.lenS rfl Try.underlying24 rfl ?_
  refine W.wants rfl rfl rfl rfl ?_
  refine W.eqlI rfl rfl rfl ?_
  refine W.eqv (bT (by rw [hsl]; rfl)) ?_
  refine W.pickT rfl rfl rfl ?_
  refine W.assign rfl rfl ?_
  refine W.nil ?_
  refine At.thenCode ?_
  refine C.ret ?_
  refine At.ret1 Try.results12 rfl ?_
  exact ⟨rfl, ((hX6.ext hX7).ext hX11).ext hX15⟩
theorem SealCloses_walk (key : List UInt8) (ao : Option Addr) (co : Nat) (beside : List UInt8) (bo : Option Addr) (cb : Nat) (plain : List UInt8) (w : World) (hk : key.length = 32) (hS : Bs w ao co beside) (hl1 : beside.length ≤ 9223372036854775807) (hT : Bs w bo cb plain) (hl2 : plain.length ≤ 9223372036854775807) :
    Ct Try.prog 3 #[keyV key, .slice ao beside.length co, .slice bo plain.length cb] w (LawOk w) := by
  refine Ct.enter [(0, keyV key), (1, .slice ao beside.length co), (2, .slice bo plain.length cb)] Try.func3 rfl rfl rfl rfl ?_
  obtain ⟨hop, hov⟩ := open_seal key beside plain
  have hsl := sealV_length key beside plain
  refine C.seq ?_
  refine C.region ?_
  refine W.box (key.map byteV) rfl rfl rfl ?_
  intro g3 w3 hg3 hX3 hB3
  refine W.assign rfl rfl ?_
  refine W.nil ?_
  refine At.thenCode ?_
  refine C.seq ?_
  refine C.region ?_
  refine W.call Try.call12 rfl (alive_ok _) rfl ?_
  rintro v11 w11 ⟨rfl, hX11⟩
  have hX11 := hX3.ext hX11
  have hB11 := hB3.ext (by assumption : Ext w3 w11)
  have hS11 := hS.ext hX11
  have hT11 := hT.ext hX11
  refine W.assign rfl rfl ?_
  refine W.nil ?_
  refine At.thenCode ?_
  refine C.seq ?_
  refine C.seq ?_
  refine C.region ?_
  refine W.move rfl rfl ?_
  first | refine W.notD rfl rfl ?_ | refine W.notB rfl rfl ?_
  refine W.move rfl rfl ?_
  refine W.wants rfl rfl rfl rfl ?_
  refine W.move rfl rfl ?_
  refine W.wants rfl rfl rfl rfl ?_
  refine W.lenS rfl Try.underlying24 rfl ?_
  refine W.wants rfl rfl rfl rfl ?_
  refine W.gtrI rfl rfl rfl ?_
  refine W.pickF rfl rfl rfl ?_
  refine W.move rfl rfl ?_
  first | refine W.splitD (fun g19 => ?_) (fun g19 => ?_) | refine W.splitB (fun g19 => ?_) (fun g19 => ?_)
  · refine W.skips rfl rfl rfl rfl rfl rfl ?_
    refine W.skips rfl rfl rfl rfl rfl rfl ?_
    refine W.skips rfl rfl rfl rfl rfl rfl ?_
    refine W.pickT rfl rfl rfl ?_
    refine W.nil ?_
    refine At.thenCode ?_
    refine C.condT rfl ?_
    refine C.seq ?_
    refine C.region ?_
    refine W.move rfl rfl ?_
    refine W.assign rfl rfl ?_
    refine W.nil ?_
    refine At.thenCode ?_
    refine C.ret ?_
    refine At.thenRet ?_
    refine At.ret1 Try.results3 rfl ?_
    first | exact ⟨rfl, Ext.below hX11⟩ | exact ⟨rfl, Ext.below (hXa.ext hX6)⟩
  · refine W.wants rfl rfl rfl rfl ?_
    refine W.move rfl rfl ?_
    refine W.wants rfl rfl rfl rfl ?_
    refine W.lenS rfl Try.underlying24 rfl ?_
    refine W.wants rfl rfl rfl rfl ?_
    refine W.gtrI rfl rfl rfl ?_
    refine W.pickF rfl rfl rfl ?_
    refine W.nil ?_
    refine At.thenCode ?_
    first | refine C.condD rfl (fun c23 => ?_) (fun c23 => ?_) | refine C.cond rfl (fun c23 => ?_) (fun c23 => ?_)
    · refine C.seq ?_
      refine C.region ?_
      refine W.move rfl rfl ?_
      refine W.assign rfl rfl ?_
      refine W.nil ?_
      refine At.thenCode ?_
      refine C.ret ?_
      refine At.thenRet ?_
      refine At.ret1 Try.results3 rfl ?_
      first | exact ⟨rfl, Ext.below hX11⟩ | exact ⟨rfl, Ext.below (hXa.ext hX6)⟩
    · refine C.skip ?_
      refine At.thenCode ?_
      refine C.seq ?_
      refine C.regionAny 6 ((fun v w => v = keyV key) :: (fun v w => v = .slice ao beside.length co) :: (fun v w => Ow w w11.heap.size 5 v beside) :: (fun v w => v = .slice bo plain.length cb) :: (fun v w => Ow w w11.heap.size 5 v plain) :: (fun v w => Ow w w11.heap.size 5 v (sealV key beside plain)) :: []) [(1, .slice ao beside.length co), (2, .slice bo plain.length cb), (3, .pointer (some ⟨g3, 0, none⟩))] [] (Sub.cons (rfl) (Sub.cons (rfl) (Sub.cons (rfl) (Sub.nil)))) (Sub.nil) (Sub.cons (rfl) (Sub.cons (rfl) (Sub.cons (rfl) (Sub.nil)))) (by kernel_rfl) rfl rfl rfl (And.intro (fun _ _ _ h _ => h) (And.intro (fun _ _ _ h _ => h) (And.intro (fun _ _ _ h g => by first | exact h | exact ownsRow_ext h g | exact Sl.ext h g) (And.intro (fun _ _ _ h _ => h) (And.intro (fun _ _ _ h g => by first | exact h | exact ownsRow_ext h g | exact Sl.ext h g) (And.intro (fun _ _ _ h g => by first | exact h | exact ownsRow_ext h g | exact Sl.ext h g) (trivial))))))) ?_ ?_
      · refine And.intro ?_ ?_
        · intro L_ w4 hX_ hs_ hf_ hd_
          refine W.step [(3, _)] (Sub.cons (hs_ _ _ rfl) (Sub.refl _)) ?_
          refine W.loadA rfl ((hB11.ext hX_).cells (o := 0)) Try.underlying23 rfl (by rw [List.drop_zero, List.length_map, hk]; kernel_rfl) rfl ?_
          refine W.nil ?_
          exact At.step (Ext.refl _) rfl
        refine And.intro ?_ ?_
        · intro L_ w4 hX_ hs_ hf_ hd_
          refine W.step [(1, _)] (Sub.cons (hs_ _ _ rfl) (Sub.refl _)) ?_
          refine W.move rfl rfl ?_
          refine W.nil ?_
          exact At.step (Ext.refl _) rfl
        refine And.intro ?_ ?_
        · intro L_ w4 hX_ hs_ hf_ hd_
          obtain ⟨v1, e1, r1⟩ := hd_ 1 rfl
          obtain rfl : (.slice ao beside.length co : Value) = v1 := Eq.symm r1
          refine W.step [(26, _)] (Sub.cons e1 (Sub.refl _)) ?_
          refine W.appendB E8 Try.underlying24 rfl rfl (Ow.nil _ w11.heap.size 5) (hS11.ext hX_) (by simp; omega) hX_.size rfl ?_
          rw [List.nil_append]
          intro v27 w27 ho27 hg27 _
          have hX27 : Ext w4 w27 := (Chg.of_grown hg27).mono fun k hk => by cases hk
          refine W.nil ?_
          exact At.step hX27 ho27
        refine And.intro ?_ ?_
        · intro L_ w4 hX_ hs_ hf_ hd_
          refine W.step [(2, _)] (Sub.cons (hs_ _ _ rfl) (Sub.refl _)) ?_
          refine W.move rfl rfl ?_
          refine W.nil ?_
          exact At.step (Ext.refl _) rfl
        refine And.intro ?_ ?_
        · intro L_ w4 hX_ hs_ hf_ hd_
          obtain ⟨v3, e3, r3⟩ := hd_ 3 rfl
          obtain rfl : (.slice bo plain.length cb : Value) = v3 := Eq.symm r3
          refine W.step [(28, _)] (Sub.cons e3 (Sub.refl _)) ?_
          refine W.appendB E8 Try.underlying24 rfl rfl (Ow.nil _ w11.heap.size 5) (hT11.ext hX_) (by simp; omega) hX_.size rfl ?_
          rw [List.nil_append]
          intro v29 w29 ho29 hg29 _
          have hX29 : Ext w4 w29 := (Chg.of_grown hg29).mono fun k hk => by cases hk
          refine W.nil ?_
          exact At.step hX29 ho29
        refine And.intro ?_ ?_
        · intro L_ w4 hX_ hs_ hf_ hd_
          obtain ⟨v0, e0, r0⟩ := hd_ 0 rfl
          obtain rfl : (keyV key : Value) = v0 := Eq.symm r0
          obtain ⟨v2, e2, r2⟩ := hd_ 2 rfl
          obtain ⟨v4, e4, r4⟩ := hd_ 4 rfl
          refine W.step [(25, _), (27, _), (29, _)] (Sub.cons e0 (Sub.cons e2 (Sub.cons e4 (Sub.refl _)))) ?_
          obtain ⟨a2, c2, rfl, hS2, _⟩ := ownsRow_form r2
          obtain ⟨a4, c4, rfl, hS4, _⟩ := ownsRow_form r4
          refine W.call Try.call13 rfl (Seal.Seal_ok key _ _ beside _ _ plain _ hk hS2 hS4 (by omega) (by omega)) rfl ?_
          rintro v30 w30 ⟨ho30, hX30⟩
          have ho30 := ownsRow_base ho30 hX_.size
          refine W.nil ?_
          exact At.step hX30 ho30
        exact trivial
      · intro L_ w4 hX4 hs_ hv_
        obtain ⟨v5, e5, r5⟩ := hv_ 5 (by decide)
        refine W.weaken (l' := [(30, _), (1, _), (2, _), (3, _)]) (Sub.cons e5 (Sub.cons (hs_ _ _ rfl) (Sub.cons (hs_ _ _ rfl) (Sub.cons (hs_ _ _ rfl) (Sub.nil))))) ?_
        refine W.assign rfl rfl ?_
        refine W.nil ?_
        refine At.thenCode ?_
        refine C.seq ?_
        refine C.region ?_
        have hX4 := hX11.ext hX4
        obtain ⟨a5, c5, rfl, hS5, _⟩ := ownsRow_form r5
        refine W.loadA rfl ((hB11.ext (by assumption : Ext w11 w4)).cells (o := 0)) Try.underlying23 rfl (by rw [List.drop_zero, List.length_map, hk]; kernel_rfl) rfl ?_
        refine W.move rfl rfl ?_
        refine W.move rfl rfl ?_
        refine W.call Try.call14 rfl (Seal.Open_ok key _ _ beside _ _ _ _ hk (hS.ext hX4) hS5 (by omega) (by omega)) rfl ?_
        rintro v35 w35 ⟨⟨a35, c35, rfl, hS35, _⟩, hX35⟩
        rw [hov, decide_eq_true hop]
        rw [hov] at hS35
        have hXa := hX4.ext hX35
        have hB35 := (hB11.ext (by assumption : Ext w11 w4)).ext hX35
        have hS5 := hS5.ext hX35
        have hS35a := hS.ext hXa
        have hT35 := hT.ext hXa
        refine W.move rfl rfl ?_
        refine W.extract rfl rfl rfl ?_
        refine W.extract rfl rfl rfl ?_
        refine W.assign rfl rfl ?_
        refine W.assign rfl rfl ?_
        refine W.nil ?_
        refine At.thenCode ?_
        refine C.seq ?_
        refine C.regionAny 19 ((fun v w => v = .slice a5 (sealV key beside plain).length c5) :: (fun v w => v = strV (sealV key beside plain)) :: (fun v w => v = keyV key) :: (fun v w => v = .slice ao beside.length co) :: (fun v w => v = .slice bo plain.length cb) :: (fun v w => Ow w w35.heap.size 5 v (sealV key beside plain)) :: (fun v w => v = strV (sealV key beside plain)) :: (fun v w => v = .bool true) :: (fun v w => v = .bool true) :: (fun v w => v = .bool true) :: (fun v w => v = .bool true) :: (fun v w => v = .bool true) :: (fun v w => v = .slice a35 plain.length c35) :: (fun v w => v = strV plain) :: (fun v w => v = .slice bo plain.length cb) :: (fun v w => v = strV plain) :: (fun v w => v = .bool true) :: (fun v w => v = .bool true) :: (fun v w => v = .bool true) :: []) [(1, .slice ao beside.length co), (2, .slice bo plain.length cb), (3, .pointer (some ⟨g3, 0, none⟩)), (8, .slice a5 (sealV key beside plain).length c5), (9, .slice a35 plain.length c35), (10, .bool true)] [] (Sub.cons (rfl) (Sub.cons (rfl) (Sub.cons (rfl) (Sub.cons (rfl) (Sub.cons (rfl) (Sub.cons (rfl) (Sub.nil))))))) (Sub.nil) (Sub.cons (rfl) (Sub.cons (rfl) (Sub.cons (rfl) (Sub.cons (rfl) (Sub.cons (rfl) (Sub.cons (rfl) (Sub.nil))))))) (by kernel_rfl) rfl rfl rfl (And.intro (fun _ _ _ h _ => h) (And.intro (fun _ _ _ h _ => h) (And.intro (fun _ _ _ h _ => h) (And.intro (fun _ _ _ h _ => h) (And.intro (fun _ _ _ h _ => h) (And.intro (fun _ _ _ h g => by first | exact h | exact ownsRow_ext h g | exact Sl.ext h g) (And.intro (fun _ _ _ h _ => h) (And.intro (fun _ _ _ h _ => h) (And.intro (fun _ _ _ h _ => h) (And.intro (fun _ _ _ h _ => h) (And.intro (fun _ _ _ h _ => h) (And.intro (fun _ _ _ h _ => h) (And.intro (fun _ _ _ h _ => h) (And.intro (fun _ _ _ h _ => h) (And.intro (fun _ _ _ h _ => h) (And.intro (fun _ _ _ h _ => h) (And.intro (fun _ _ _ h _ => h) (And.intro (fun _ _ _ h _ => h) (And.intro (fun _ _ _ h _ => h) (trivial)))))))))))))))))))) ?_ ?_
        · refine And.intro ?_ ?_
          · intro L_ w6 hX_ hs_ hf_ hd_
            refine W.step [(8, _)] (Sub.cons (hs_ _ _ rfl) (Sub.refl _)) ?_
            refine W.move rfl rfl ?_
            refine W.nil ?_
            exact At.step (Ext.refl _) rfl
          refine And.intro ?_ ?_
          · intro L_ w6 hX_ hs_ hf_ hd_
            obtain ⟨v0, e0, r0⟩ := hd_ 0 rfl
            obtain rfl : (.slice a5 (sealV key beside plain).length c5 : Value) = v0 := Eq.symm r0
            refine W.step [(38, _)] (Sub.cons e0 (Sub.refl _)) ?_
            refine W.bytesStr Try.underlying24 Try.underlying5 Try.underlying9 rfl (hS5.ext hX_) rfl ?_
            refine W.nil ?_
            exact At.step (Ext.refl _) rfl
          refine And.intro ?_ ?_
          · intro L_ w6 hX_ hs_ hf_ hd_
            refine W.step [(3, _)] (Sub.cons (hs_ _ _ rfl) (Sub.refl _)) ?_
            refine W.loadA rfl ((hB35.ext hX_).cells (o := 0)) Try.underlying23 rfl (by rw [List.drop_zero, List.length_map, hk]; kernel_rfl) rfl ?_
            refine W.nil ?_
            exact At.step (Ext.refl _) rfl
          refine And.intro ?_ ?_
          · intro L_ w6 hX_ hs_ hf_ hd_
            refine W.step [(1, _)] (Sub.cons (hs_ _ _ rfl) (Sub.refl _)) ?_
            refine W.move rfl rfl ?_
            refine W.nil ?_
            exact At.step (Ext.refl _) rfl
          refine And.intro ?_ ?_
          · intro L_ w6 hX_ hs_ hf_ hd_
            refine W.step [(2, _)] (Sub.cons (hs_ _ _ rfl) (Sub.refl _)) ?_
            refine W.move rfl rfl ?_
            refine W.nil ?_
            exact At.step (Ext.refl _) rfl
          refine And.intro ?_ ?_
          · intro L_ w6 hX_ hs_ hf_ hd_
            obtain ⟨v2, e2, r2⟩ := hd_ 2 rfl
            obtain rfl : (keyV key : Value) = v2 := Eq.symm r2
            obtain ⟨v3, e3, r3⟩ := hd_ 3 rfl
            obtain rfl : (.slice ao beside.length co : Value) = v3 := Eq.symm r3
            obtain ⟨v4, e4, r4⟩ := hd_ 4 rfl
            obtain rfl : (.slice bo plain.length cb : Value) = v4 := Eq.symm r4
            refine W.step [(40, _), (41, _), (42, _)] (Sub.cons e2 (Sub.cons e3 (Sub.cons e4 (Sub.refl _)))) ?_
            refine W.call Try.call15 rfl (Seal.RSeal_ok key _ _ beside _ _ plain _ hk (hS35a.ext hX_) (hT35.ext hX_) (by omega) (by omega)) rfl ?_
            rintro v43 w43 ⟨ho43, hX43⟩
            have ho43 := ownsRow_base ho43 hX_.size
            refine W.nil ?_
            exact At.step hX43 ho43
          refine And.intro ?_ ?_
          · intro L_ w6 hX_ hs_ hf_ hd_
            obtain ⟨v5, e5, r5⟩ := hd_ 5 rfl
            refine W.step [(43, _)] (Sub.cons e5 (Sub.refl _)) ?_
            obtain ⟨a43, c43, rfl, hS43, _⟩ := ownsRow_form r5
            refine W.bytesStr Try.underlying24 Try.underlying5 Try.underlying9 rfl hS43 rfl ?_
            refine W.nil ?_
            exact At.step (Ext.refl _) rfl
          refine And.intro ?_ ?_
          · intro L_ w6 hX_ hs_ hf_ hd_
            obtain ⟨v1, e1, r1⟩ := hd_ 1 rfl
            obtain rfl : (strV (sealV key beside plain) : Value) = v1 := Eq.symm r1
            obtain ⟨v6, e6, r6⟩ := hd_ 6 rfl
            obtain rfl : (strV (sealV key beside plain) : Value) = v6 := Eq.symm r6
            refine W.step [(39, _), (44, _)] (Sub.cons e1 (Sub.cons e6 (Sub.refl _))) ?_
            refine W.eqlStr (a := sealV key beside plain) (b := sealV key beside plain) rfl rfl rfl ?_
            refine W.eqv (bT (rfl)) ?_
            refine W.nil ?_
            exact At.step (Ext.refl _) rfl
          refine And.intro ?_ ?_
          · intro L_ w6 hX_ hs_ hf_ hd_
            obtain ⟨v7, e7, r7⟩ := hd_ 7 rfl
            obtain rfl : (.bool true : Value) = v7 := Eq.symm r7
            refine W.step [(45, _)] (Sub.cons e7 (Sub.refl _)) ?_
            refine W.move rfl rfl ?_
            refine W.nil ?_
            exact At.step (Ext.refl _) rfl
          refine And.intro ?_ ?_
          · intro L_ w6 hX_ hs_ hf_ hd_
            obtain ⟨v8, e8, r8⟩ := hd_ 8 rfl
            obtain rfl : (.bool true : Value) = v8 := Eq.symm r8
            refine W.step [(10, _), (46, _)] (Sub.cons (hs_ _ _ rfl) (Sub.cons e8 (Sub.refl _))) ?_
            refine W.wants rfl rfl rfl rfl ?_
            refine W.move rfl rfl ?_
            refine W.nil ?_
            exact At.step (Ext.refl _) rfl
          refine And.intro ?_ ?_
          · intro L_ w6 hX_ hs_ hf_ hd_
            obtain ⟨v8, e8, r8⟩ := hd_ 8 rfl
            obtain rfl : (.bool true : Value) = v8 := Eq.symm r8
            obtain ⟨v9, e9, r9⟩ := hd_ 9 rfl
            obtain rfl : (.bool true : Value) = v9 := Eq.symm r9
            refine W.step [(46, _), (47, _)] (Sub.cons e8 (Sub.cons e9 (Sub.refl _))) ?_
            refine W.pickT rfl rfl rfl ?_
            refine W.nil ?_
            exact At.step (Ext.refl _) rfl
          refine And.intro ?_ ?_
          · intro L_ w6 hX_ hs_ hf_ hd_
            obtain ⟨v10, e10, r10⟩ := hd_ 10 rfl
            obtain rfl : (.bool true : Value) = v10 := Eq.symm r10
            refine W.step [(48, _)] (Sub.cons e10 (Sub.refl _)) ?_
            refine W.move rfl rfl ?_
            refine W.nil ?_
            exact At.step (Ext.refl _) rfl
          refine And.intro ?_ ?_
          · intro L_ w6 hX_ hs_ hf_ hd_
            obtain ⟨v11, e11, r11⟩ := hd_ 11 rfl
            obtain rfl : (.bool true : Value) = v11 := Eq.symm r11
            refine W.step [(9, _), (49, _)] (Sub.cons (hs_ _ _ rfl) (Sub.cons e11 (Sub.refl _))) ?_
            refine W.wants rfl rfl rfl rfl ?_
            refine W.move rfl rfl ?_
            refine W.nil ?_
            exact At.step (Ext.refl _) rfl
          refine And.intro ?_ ?_
          · intro L_ w6 hX_ hs_ hf_ hd_
            obtain ⟨v12, e12, r12⟩ := hd_ 12 rfl
            obtain rfl : (.slice a35 plain.length c35 : Value) = v12 := Eq.symm r12
            obtain ⟨v11, e11, r11⟩ := hd_ 11 rfl
            obtain rfl : (.bool true : Value) = v11 := Eq.symm r11
            refine W.step [(50, _), (49, _)] (Sub.cons e12 (Sub.cons e11 (Sub.refl _))) ?_
            refine W.wants rfl rfl rfl rfl ?_
            refine W.bytesStr Try.underlying24 Try.underlying5 Try.underlying9 rfl (hS35.ext hX_) rfl ?_
            refine W.nil ?_
            exact At.step (Ext.refl _) rfl
          refine And.intro ?_ ?_
          · intro L_ w6 hX_ hs_ hf_ hd_
            obtain ⟨v11, e11, r11⟩ := hd_ 11 rfl
            obtain rfl : (.bool true : Value) = v11 := Eq.symm r11
            refine W.step [(2, _), (49, _)] (Sub.cons (hs_ _ _ rfl) (Sub.cons e11 (Sub.refl _))) ?_
            refine W.wants rfl rfl rfl rfl ?_
            refine W.move rfl rfl ?_
            refine W.nil ?_
            exact At.step (Ext.refl _) rfl
          refine And.intro ?_ ?_
          · intro L_ w6 hX_ hs_ hf_ hd_
            obtain ⟨v14, e14, r14⟩ := hd_ 14 rfl
            obtain rfl : (.slice bo plain.length cb : Value) = v14 := Eq.symm r14
            obtain ⟨v11, e11, r11⟩ := hd_ 11 rfl
            obtain rfl : (.bool true : Value) = v11 := Eq.symm r11
            refine W.step [(52, _), (49, _)] (Sub.cons e14 (Sub.cons e11 (Sub.refl _))) ?_
            refine W.wants rfl rfl rfl rfl ?_
            refine W.bytesStr Try.underlying24 Try.underlying5 Try.underlying9 rfl (hT35.ext hX_) rfl ?_
            refine W.nil ?_
            exact At.step (Ext.refl _) rfl
          refine And.intro ?_ ?_
          · intro L_ w6 hX_ hs_ hf_ hd_
            obtain ⟨v13, e13, r13⟩ := hd_ 13 rfl
            obtain rfl : (strV plain : Value) = v13 := Eq.symm r13
            obtain ⟨v15, e15, r15⟩ := hd_ 15 rfl
            obtain rfl : (strV plain : Value) = v15 := Eq.symm r15
            obtain ⟨v11, e11, r11⟩ := hd_ 11 rfl
            obtain rfl : (.bool true : Value) = v11 := Eq.symm r11
            refine W.step [(51, _), (53, _), (49, _)] (Sub.cons e13 (Sub.cons e15 (Sub.cons e11 (Sub.refl _)))) ?_
            refine W.wants rfl rfl rfl rfl ?_
            refine W.eqlStr (a := plain) (b := plain) rfl rfl rfl ?_
            refine W.eqv (bT (rfl)) ?_
            refine W.nil ?_
            exact At.step (Ext.refl _) rfl
          refine And.intro ?_ ?_
          · intro L_ w6 hX_ hs_ hf_ hd_
            obtain ⟨v11, e11, r11⟩ := hd_ 11 rfl
            obtain rfl : (.bool true : Value) = v11 := Eq.symm r11
            obtain ⟨v16, e16, r16⟩ := hd_ 16 rfl
            obtain rfl : (.bool true : Value) = v16 := Eq.symm r16
            refine W.step [(49, _), (54, _)] (Sub.cons e11 (Sub.cons e16 (Sub.refl _))) ?_
            refine W.pickT rfl rfl rfl ?_
            refine W.nil ?_
            exact At.step (Ext.refl _) rfl
          refine And.intro ?_ ?_
          · intro L_ w6 hX_ hs_ hf_ hd_
            obtain ⟨v17, e17, r17⟩ := hd_ 17 rfl
            obtain rfl : (.bool true : Value) = v17 := Eq.symm r17
            refine W.step [(55, _)] (Sub.cons e17 (Sub.refl _)) ?_
            refine W.assign rfl rfl ?_
            refine W.nil ?_
            exact At.step (Ext.refl _) rfl
          exact trivial
        · intro L_ w6 hX6 hs_ hv_
          obtain ⟨v18, e18, r18⟩ := hv_ 18 (by decide)
          obtain rfl : (.bool true : Value) = v18 := Eq.symm r18
          refine W.weaken (l' := [(6, _), (1, _), (2, _), (3, _), (8, _), (9, _), (10, _)]) (Sub.cons e18 (Sub.cons (hs_ _ _ rfl) (Sub.cons (hs_ _ _ rfl) (Sub.cons (hs_ _ _ rfl) (Sub.cons (hs_ _ _ rfl) (Sub.cons (hs_ _ _ rfl) (Sub.cons (hs_ _ _ rfl) (Sub.nil)))))))) ?_
          refine W.nil ?_
          refine At.thenCode ?_
          refine C.ret ?_
          refine At.ret1 Try.results3 rfl ?_
          first | exact ⟨rfl, Ext.below hX11⟩ | exact ⟨rfl, Ext.below (hXa.ext hX6)⟩
theorem SealOpens_walk (key : List UInt8) (ao : Option Addr) (co : Nat) (beside : List UInt8) (bo : Option Addr) (cb : Nat) (b : List UInt8) (w : World) (hk : key.length = 32) (hS : Bs w ao co beside) (hl1 : beside.length ≤ 9223372036854775807) (hT : Bs w bo cb b) (hl2 : b.length ≤ 9223372036854775807) :
    Ct Try.prog 4 #[keyV key, .slice ao beside.length co, .slice bo b.length cb] w (LawOk w) := by
  refine Ct.enter [(0, keyV key), (1, .slice ao beside.length co), (2, .slice bo b.length cb)] Try.func4 rfl rfl rfl rfl ?_
  refine C.seq ?_
  refine C.region ?_
  refine W.box (key.map byteV) rfl rfl rfl ?_
  intro g3 w3 hg3 hX3 hB3
  refine W.assign rfl rfl ?_
  refine W.nil ?_
  refine At.thenCode ?_
  refine C.seq ?_
  refine C.region ?_
  refine W.call Try.call12 rfl (alive_ok _) rfl ?_
  rintro v12 w12 ⟨rfl, hX12⟩
  have hX12 := hX3.ext hX12
  have hB12 := hB3.ext (by assumption : Ext w3 w12)
  have hS12 := hS.ext hX12
  have hT12 := hT.ext hX12
  refine W.assign rfl rfl ?_
  refine W.nil ?_
  refine At.thenCode ?_
  refine C.seq ?_
  refine C.seq ?_
  refine C.region ?_
  refine W.move rfl rfl ?_
  first | refine W.notD rfl rfl ?_ | refine W.notB rfl rfl ?_
  refine W.move rfl rfl ?_
  refine W.wants rfl rfl rfl rfl ?_
  refine W.move rfl rfl ?_
  refine W.wants rfl rfl rfl rfl ?_
  refine W.lenS rfl Try.underlying24 rfl ?_
  refine W.wants rfl rfl rfl rfl ?_
  refine W.gtrI rfl rfl rfl ?_
  refine W.pickF rfl rfl rfl ?_
  refine W.move rfl rfl ?_
  first | refine W.splitD (fun g20 => ?_) (fun g20 => ?_) | refine W.splitB (fun g20 => ?_) (fun g20 => ?_)
  · refine W.skips rfl rfl rfl rfl rfl rfl ?_
    refine W.skips rfl rfl rfl rfl rfl rfl ?_
    refine W.skips rfl rfl rfl rfl rfl rfl ?_
    refine W.pickT rfl rfl rfl ?_
    refine W.nil ?_
    refine At.thenCode ?_
    refine C.condT rfl ?_
    refine C.seq ?_
    refine C.region ?_
    refine W.move rfl rfl ?_
    refine W.assign rfl rfl ?_
    refine W.nil ?_
    refine At.thenCode ?_
    refine C.ret ?_
    refine At.thenRet ?_
    refine At.ret1 Try.results4 rfl ?_
    first | exact ⟨rfl, Ext.below hX12⟩ | exact ⟨rfl, Ext.below (hX4'.ext hX38)⟩
  · refine W.wants rfl rfl rfl rfl ?_
    refine W.move rfl rfl ?_
    refine W.wants rfl rfl rfl rfl ?_
    refine W.lenS rfl Try.underlying24 rfl ?_
    refine W.wants rfl rfl rfl rfl ?_
    refine W.gtrI rfl rfl rfl ?_
    refine W.pickF rfl rfl rfl ?_
    refine W.nil ?_
    refine At.thenCode ?_
    first | refine C.condD rfl (fun c24 => ?_) (fun c24 => ?_) | refine C.cond rfl (fun c24 => ?_) (fun c24 => ?_)
    · refine C.seq ?_
      refine C.region ?_
      refine W.move rfl rfl ?_
      refine W.assign rfl rfl ?_
      refine W.nil ?_
      refine At.thenCode ?_
      refine C.ret ?_
      refine At.thenRet ?_
      refine At.ret1 Try.results4 rfl ?_
      first | exact ⟨rfl, Ext.below hX12⟩ | exact ⟨rfl, Ext.below (hX4'.ext hX38)⟩
    · refine C.skip ?_
      refine At.thenCode ?_
      refine C.seq ?_
      refine C.regionAny 9 ((fun v w => v = keyV key) :: (fun v w => v = .slice ao beside.length co) :: (fun v w => v = .slice bo b.length cb) :: (fun v w => Ow w w12.heap.size 5 v b) :: (fun v w => OpenR key beside b w12.heap.size v w) :: (fun v w => OpenR key beside b w12.heap.size v w) :: (fun v w => ∃ ao c, v = .slice ao (openV key beside b).length c ∧ Bs w ao c (openV key beside b)) :: (fun v w => v = .bool (decide (openOk key beside b))) :: (fun v w => ∃ ao c, v = .slice ao (openV key beside b).length c ∧ Bs w ao c (openV key beside b)) :: []) [(1, .slice ao beside.length co), (2, .slice bo b.length cb), (3, .pointer (some ⟨g3, 0, none⟩))] [] (Sub.cons (rfl) (Sub.cons (rfl) (Sub.cons (rfl) (Sub.nil)))) (Sub.nil) (Sub.cons (rfl) (Sub.cons (rfl) (Sub.cons (rfl) (Sub.nil)))) (by kernel_rfl) rfl rfl rfl (And.intro (fun _ _ _ h _ => h) (And.intro (fun _ _ _ h _ => h) (And.intro (fun _ _ _ h _ => h) (And.intro (fun _ _ _ h g => by first | exact h | exact ownsRow_ext h g | exact Sl.ext h g) (And.intro (fun _ _ _ ⟨ao, c, hv, hS, h⟩ g => ⟨ao, c, hv, hS.ext g, h⟩) (And.intro (fun _ _ _ ⟨ao, c, hv, hS, h⟩ g => ⟨ao, c, hv, hS.ext g, h⟩) (And.intro (fun _ _ _ ⟨ao, c, hv, hS⟩ g => ⟨ao, c, hv, hS.ext g⟩) (And.intro (fun _ _ _ h _ => h) (And.intro (fun _ _ _ ⟨ao, c, hv, hS⟩ g => ⟨ao, c, hv, hS.ext g⟩) (trivial)))))))))) ?_ ?_
      · refine And.intro ?_ ?_
        · intro L_ w4 hX_ hs_ hf_ hd_
          refine W.step [(3, _)] (Sub.cons (hs_ _ _ rfl) (Sub.refl _)) ?_
          refine W.loadA rfl ((hB12.ext hX_).cells (o := 0)) Try.underlying23 rfl (by rw [List.drop_zero, List.length_map, hk]; kernel_rfl) rfl ?_
          refine W.nil ?_
          exact At.step (Ext.refl _) rfl
        refine And.intro ?_ ?_
        · intro L_ w4 hX_ hs_ hf_ hd_
          refine W.step [(1, _)] (Sub.cons (hs_ _ _ rfl) (Sub.refl _)) ?_
          refine W.move rfl rfl ?_
          refine W.nil ?_
          exact At.step (Ext.refl _) rfl
        refine And.intro ?_ ?_
        · intro L_ w4 hX_ hs_ hf_ hd_
          refine W.step [(2, _)] (Sub.cons (hs_ _ _ rfl) (Sub.refl _)) ?_
          refine W.move rfl rfl ?_
          refine W.nil ?_
          exact At.step (Ext.refl _) rfl
        refine And.intro ?_ ?_
        · intro L_ w4 hX_ hs_ hf_ hd_
          obtain ⟨v2, e2, r2⟩ := hd_ 2 rfl
          obtain rfl : (.slice bo b.length cb : Value) = v2 := Eq.symm r2
          refine W.step [(29, _)] (Sub.cons e2 (Sub.refl _)) ?_
          refine W.appendB E8 Try.underlying24 rfl rfl (Ow.nil _ w12.heap.size 5) (hT12.ext hX_) (by simp; omega) hX_.size rfl ?_
          rw [List.nil_append]
          intro v30 w30 ho30 hg30 _
          have hX30 : Ext w4 w30 := (Chg.of_grown hg30).mono fun k hk => by cases hk
          refine W.nil ?_
          exact At.step hX30 ho30
        refine And.intro ?_ ?_
        · intro L_ w4 hX_ hs_ hf_ hd_
          obtain ⟨v0, e0, r0⟩ := hd_ 0 rfl
          obtain rfl : (keyV key : Value) = v0 := Eq.symm r0
          obtain ⟨v1, e1, r1⟩ := hd_ 1 rfl
          obtain rfl : (.slice ao beside.length co : Value) = v1 := Eq.symm r1
          obtain ⟨v3, e3, r3⟩ := hd_ 3 rfl
          refine W.step [(27, _), (28, _), (30, _)] (Sub.cons e0 (Sub.cons e1 (Sub.cons e3 (Sub.refl _)))) ?_
          obtain ⟨a3, c3, rfl, hS3, _⟩ := ownsRow_form r3
          refine W.call Try.call14 rfl (Seal.Open_ok key _ _ beside _ _ b _ hk (hS12.ext hX_) hS3 (by omega) (by omega)) rfl ?_
          rintro v31 w31 ⟨⟨a31, c31, rfl, hS31, hb31⟩, hX31⟩
          refine W.nil ?_
          exact At.step hX31 ⟨_, _, rfl, hS31, fun ad h => Nat.le_trans hX_.size (hb31 ad h)⟩
        refine And.intro ?_ ?_
        · intro L_ w4 hX_ hs_ hf_ hd_
          obtain ⟨v4, e4, r4⟩ := hd_ 4 rfl
          refine W.step [(31, _)] (Sub.cons e4 (Sub.refl _)) ?_
          refine W.move rfl rfl ?_
          refine W.nil ?_
          exact At.step (Ext.refl _) r4
        refine And.intro ?_ ?_
        · intro L_ w4 hX_ hs_ hf_ hd_
          obtain ⟨v5, e5, r5⟩ := hd_ 5 rfl
          obtain ⟨a5, c5, rfl, hS5, _⟩ := r5
          refine W.step [(26, _)] (Sub.cons e5 (Sub.refl _)) ?_
          refine W.extract rfl rfl rfl ?_
          refine W.nil ?_
          exact At.step (Ext.refl _) ⟨_, _, rfl, hS5⟩
        refine And.intro ?_ ?_
        · intro L_ w4 hX_ hs_ hf_ hd_
          obtain ⟨v5, e5, r5⟩ := hd_ 5 rfl
          obtain ⟨a5, c5, rfl, hS5, _⟩ := r5
          refine W.step [(26, _)] (Sub.cons e5 (Sub.refl _)) ?_
          refine W.extract rfl rfl rfl ?_
          refine W.nil ?_
          exact At.step (Ext.refl _) rfl
        refine And.intro ?_ ?_
        · intro L_ w4 hX_ hs_ hf_ hd_
          obtain ⟨v6, e6, r6⟩ := hd_ 6 rfl
          obtain ⟨a6, c6, rfl, hS6⟩ := r6
          refine W.step [(32, _)] (Sub.cons e6 (Sub.refl _)) ?_
          refine W.assign rfl rfl ?_
          refine W.nil ?_
          exact At.step (Ext.refl _) ⟨_, _, rfl, hS6⟩
        exact trivial
      · intro L_ w4 hX4 hs_ hv_
        obtain ⟨v8, e8, r8⟩ := hv_ 8 (by decide)
        obtain ⟨a6, c6, rfl, hS6⟩ := r8
        obtain ⟨v7, e7, r7⟩ := hv_ 7 (by decide)
        obtain rfl : (.bool (decide (openOk key beside b)) : Value) = v7 := Eq.symm r7
        refine W.weaken (l' := [(8, _), (33, _), (1, _), (2, _), (3, _)]) (Sub.cons e8 (Sub.cons e7 (Sub.cons (hs_ _ _ rfl) (Sub.cons (hs_ _ _ rfl) (Sub.cons (hs_ _ _ rfl) (Sub.nil)))))) ?_
        refine W.assign rfl rfl ?_
        refine W.nil ?_
        refine At.thenCode ?_
        refine C.seq ?_
        refine C.region ?_
        have hX4' := hX12.ext hX4
        refine W.loadA rfl ((hB12.ext hX4).cells (o := 0)) Try.underlying23 rfl (by rw [List.drop_zero, List.length_map, hk]; kernel_rfl) rfl ?_
        refine W.move rfl rfl ?_
        refine W.move rfl rfl ?_
        refine W.call Try.call16 rfl (Seal.ROpen_ok key _ _ beside _ _ b _ hk (hS.ext hX4') (hT.ext hX4') (by omega) (by omega)) rfl ?_
        rintro v38 w38 ⟨⟨a38, c38, rfl, hS38, _⟩, hX38⟩
        refine W.move rfl rfl ?_
        refine W.extract rfl rfl rfl ?_
        refine W.extract rfl rfl rfl ?_
        refine W.assign rfl rfl ?_
        refine W.assign rfl rfl ?_
        refine W.nil ?_
        refine At.thenCode ?_
        refine C.seq ?_
        refine C.region ?_
        refine W.move rfl rfl ?_
        refine W.bytesStr Try.underlying24 Try.underlying5 Try.underlying9 rfl (hS6.ext hX38) rfl ?_
        refine W.move rfl rfl ?_
        refine W.bytesStr Try.underlying24 Try.underlying5 Try.underlying9 rfl hS38 rfl ?_
        refine W.eqlStr (a := openV key beside b) (b := openV key beside b) rfl rfl rfl ?_
        refine W.eqv (bT (rfl)) ?_
        refine W.move rfl rfl ?_
        refine W.wants rfl rfl rfl rfl ?_
        refine W.move rfl rfl ?_
        refine W.wants rfl rfl rfl rfl ?_
        refine W.move rfl rfl ?_
        refine W.wants rfl rfl rfl rfl ?_
        refine W.eqlB rfl rfl Try.underlying4 rfl ?_
        refine W.eqv (bT (rfl)) ?_
        refine W.pickT rfl rfl rfl ?_
        refine W.assign rfl rfl ?_
        refine W.nil ?_
        refine At.thenCode ?_
        refine C.ret ?_
        refine At.ret1 Try.results4 rfl ?_
        first | exact ⟨rfl, Ext.below hX12⟩ | exact ⟨rfl, Ext.below (hX4'.ext hX38)⟩
theorem shl_lt (s : Nat) : shlM 256 8 1 s < 256 := Nat.mod_lt _ (by decide)
theorem map_set_byte (xs : List UInt8) (i : Nat) (y : UInt8) : (xs.map byteV).set i (byteV y) = (xs.set i y).map byteV := List.map_set.symm
theorem SealTurned_walk (key : List UInt8) (ao : Option Addr) (co : Nat) (beside : List UInt8) (bo : Option Addr) (cb : Nat) (plain : List UInt8) (at_ bit : Int) (w : World) (hk : key.length = 32) (hS : Bs w ao co beside) (hl1 : beside.length ≤ 9223372036854775807) (hT : Bs w bo cb plain) (hl2 : plain.length ≤ 9223372036854775807) (hat : -9223372036854775808 ≤ at_ ∧ at_ ≤ 9223372036854775807) (hbit : -9223372036854775808 ≤ bit ∧ bit ≤ 9223372036854775807) :
    Ct Try.prog 5 #[keyV key, .slice ao beside.length co, .slice bo plain.length cb, .int .i64 at_, .int .i64 bit] w (LawOk w) := by
  refine Ct.enter [(0, keyV key), (1, .slice ao beside.length co), (2, .slice bo plain.length cb), (3, .int .i64 at_), (4, .int .i64 bit)] Try.func5 rfl rfl rfl rfl ?_
  have hsl := sealV_length key beside plain
  obtain ⟨n, hn⟩ : ∃ n, n = (sealV key beside plain).length := ⟨_, rfl⟩
  obtain ⟨m, hm⟩ : ∃ m, m = beside.length := ⟨_, rfl⟩
  obtain ⟨i, hi⟩ : ∃ i : Nat, i = at_.toNat % (n + m + 32) := ⟨_, rfl⟩
  have hi2 : i < n + m + 32 := by rw [hi]; exact Nat.mod_lt _ (by omega)
  refine C.seq ?_
  refine C.region ?_
  refine W.box (key.map byteV) rfl rfl rfl ?_
  intro g5 w5 hg5 hX5 hB5
  refine W.assign rfl rfl ?_
  refine W.nil ?_
  refine At.thenCode ?_
  refine C.seq ?_
  refine C.region ?_
  refine W.call Try.call12 rfl (alive_ok _) rfl ?_
  rintro v20 w20 ⟨rfl, hX20⟩
  have hX20a := hX5.ext hX20
  have hB20 := hB5.ext hX20
  have hS20 := hS.ext hX20a
  have hT20 := hT.ext hX20a
  refine W.assign rfl rfl ?_
  refine W.nil ?_
  refine At.thenCode ?_
  refine C.seq ?_
  refine C.seq ?_
  refine C.region ?_
  refine W.move rfl rfl ?_
  first | refine W.notD rfl rfl ?_ | refine W.notB rfl rfl ?_
  refine W.move rfl rfl ?_
  refine W.wants rfl rfl rfl rfl ?_
  refine W.move rfl rfl ?_
  refine W.wants rfl rfl rfl rfl ?_
  refine W.lenS rfl Try.underlying24 rfl ?_
  refine W.wants rfl rfl rfl rfl ?_
  refine W.gtrI rfl rfl rfl ?_
  refine W.pickF rfl rfl rfl ?_
  refine W.move rfl rfl ?_
  first | refine W.splitD (fun g28 => ?_) (fun g28 => ?_) | refine W.splitB (fun g28 => ?_) (fun g28 => ?_)
  · refine W.skips rfl rfl rfl rfl rfl rfl ?_
    refine W.skips rfl rfl rfl rfl rfl rfl ?_
    refine W.skips rfl rfl rfl rfl rfl rfl ?_
    refine W.pickT rfl rfl rfl ?_
    refine W.move rfl rfl ?_
    refine W.skips rfl rfl rfl rfl rfl rfl ?_
    refine W.skips rfl rfl rfl rfl rfl rfl ?_
    refine W.pickT rfl rfl rfl ?_
    refine W.nil ?_
    refine At.thenCode ?_
    refine C.condT rfl ?_
    refine C.seq ?_
    refine C.region ?_
    refine W.move rfl rfl ?_
    refine W.assign rfl rfl ?_
    refine W.nil ?_
    refine At.thenCode ?_
    refine C.ret ?_
    refine At.thenRet ?_
    refine At.ret1 Try.results5 rfl ?_
    first | exact ⟨rfl, Ext.below hX20a⟩ | exact ⟨rfl, Ext.below ((hXm.ext hX123).ext hX130)⟩
  · refine W.wants rfl rfl rfl rfl ?_
    refine W.move rfl rfl ?_
    refine W.wants rfl rfl rfl rfl ?_
    refine W.lenS rfl Try.underlying24 rfl ?_
    refine W.wants rfl rfl rfl rfl ?_
    refine W.gtrI rfl rfl rfl ?_
    refine W.pickF rfl rfl rfl ?_
    refine W.move rfl rfl ?_
    first | refine W.splitD (fun g33 => ?_) (fun g33 => ?_) | refine W.splitB (fun g33 => ?_) (fun g33 => ?_)
    · refine W.skips rfl rfl rfl rfl rfl rfl ?_
      refine W.skips rfl rfl rfl rfl rfl rfl ?_
      refine W.pickT rfl rfl rfl ?_
      refine W.nil ?_
      refine At.thenCode ?_
      refine C.condT rfl ?_
      refine C.seq ?_
      refine C.region ?_
      refine W.move rfl rfl ?_
      refine W.assign rfl rfl ?_
      refine W.nil ?_
      refine At.thenCode ?_
      refine C.ret ?_
      refine At.thenRet ?_
      refine At.ret1 Try.results5 rfl ?_
      first | exact ⟨rfl, Ext.below hX20a⟩ | exact ⟨rfl, Ext.below ((hXm.ext hX123).ext hX130)⟩
    · refine W.wants rfl rfl rfl rfl ?_
      refine W.move rfl rfl ?_
      refine W.wants rfl rfl rfl rfl ?_
      refine W.lssI rfl rfl rfl ?_
      refine W.pickF rfl rfl rfl ?_
      refine W.nil ?_
      refine At.thenCode ?_
      first | refine C.condD rfl (fun c36 => ?_) (fun c36 => ?_) | refine C.cond rfl (fun c36 => ?_) (fun c36 => ?_)
      · refine C.seq ?_
        refine C.region ?_
        refine W.move rfl rfl ?_
        refine W.assign rfl rfl ?_
        refine W.nil ?_
        refine At.thenCode ?_
        refine C.ret ?_
        refine At.thenRet ?_
        refine At.ret1 Try.results5 rfl ?_
        first | exact ⟨rfl, Ext.below hX20a⟩ | exact ⟨rfl, Ext.below ((hXm.ext hX123).ext hX130)⟩
      · refine C.skip ?_
        refine At.thenCode ?_
        refine C.seq ?_
        refine C.region ?_
        refine W.loadA rfl (hB20.cells (o := 0)) Try.underlying23 rfl (by rw [List.drop_zero, List.length_map, hk]; kernel_rfl) rfl ?_
        refine W.move rfl rfl ?_
        refine W.move rfl rfl ?_
        refine W.call Try.call13 rfl (Seal.Seal_ok key _ _ beside _ _ plain _ hk hS20 hT20 (by omega) (by omega)) rfl ?_
        rintro v41 w41 ⟨ho41, hX41⟩
        obtain ⟨a12, c12, rfl, hh12⟩ := own_head ho41
        obtain ⟨g12, rfl, hg12a, hg12b⟩ := hh12 (by intro h; rw [h] at hsl; simp at hsl)
        rw [← hn] at hsl ho41 ⊢
        refine W.assign rfl rfl ?_
        refine W.nil ?_
        refine At.thenCode ?_
        refine C.seq ?_
        refine C.seq ?_
        refine C.region ?_
        refine W.move rfl rfl ?_
        refine W.lenS rfl Try.underlying24 rfl ?_
        refine W.move rfl rfl ?_
        refine W.lenS rfl Try.underlying24 rfl ?_
        first | refine W.addI rfl rfl (by omega) rfl ?_ | refine W.addW rfl rfl rfl ?_
        refine W.neqI rfl rfl rfl ?_
        refine W.eqv (bF (by omega)) ?_
        refine W.nil ?_
        refine At.thenCode ?_
        refine C.condF rfl ?_
        refine C.skip ?_
        refine At.thenCode ?_
        refine C.seq ?_
        refine C.region ?_
        refine W.move rfl rfl ?_
        refine W.appendB E8 Try.underlying24 rfl rfl (Ow.nil _ w41.heap.size 5) (hS20.ext hX41) (by simp; omega) (Nat.le_refl _) rfl ?_
        rw [List.nil_append]
        intro v49 w49 ho49 hg49 _
        have hX49 : Ext w41 w49 := (Chg.of_grown hg49).mono fun k hk => by cases hk
        obtain ⟨a13, c13, rfl, hh13⟩ := own_head ho49
        have ho12 := ownsRow_ext ho41 hX49
        rw [← hm] at ho49 ⊢
        refine W.assign rfl rfl ?_
        refine W.nil ?_
        refine At.thenCode ?_
        refine C.seq ?_
        refine C.region ?_
        refine W.loadA rfl ((((hB20.ext hX41)).ext hX49).cells (o := 0)) Try.underlying23 rfl (by rw [List.drop_zero, List.length_map, hk]; kernel_rfl) rfl ?_
        refine W.alloc (z := .agg (List.replicate 32 (byteV 0)).toArray) (List.replicate 32 (byteV 0)) (by kernel_rfl) rfl rfl ?_
        intro g14 w14 hg14 hX14 hB14
        refine W.storeA (key.map byteV) rfl rfl hB14 (by rw [List.length_map, hk]; rfl) (by rw [List.length_map, hk]; kernel_rfl) (bytes_oneCell _) ?_
        intro w8 hc8 hB8
        have hs5 := hX5.size
        have hs20 := hX20.size
        have hs41 := hX41.size
        have hs49 := hX49.size
        have ho12 := ownsRow_chg (ownsRow_ext ho12 hX14) hc8 (fun k hk h => by have h2 : g12 = k := Option.some.inj hk; omega)
        have ho13 := ownsRow_chg (ownsRow_ext ho49 hX14) hc8 (fun k hk h => by
          have hx := World.ownsRow.lt ho49 k hk
          omega)
        have hX8 : Ext w w8 := (((hX20a.ext hX41).ext hX49).ext hX14).news hc8 (fun k hk => Or.inr (by omega))
        refine W.nil ?_
        refine At.thenCode ?_
        refine C.seq ?_
        refine C.region ?_
        refine W.move rfl rfl ?_
        refine W.maskI 3 rfl rfl rfl (by omega) rfl ?_
        first | refine W.convIN (M := 18446744073709551616) rfl Try.underlying3 Try.underlying30 rfl rfl (by omega) rfl ?_ | refine W.convIU (M := 18446744073709551616) rfl Try.underlying3 Try.underlying30 rfl rfl rfl ?_
        refine W.shlU (M := 256) (B := 8) (m := 1) rfl rfl rfl rfl rfl rfl ?_
        have hSl12 : Sl w8 (some ⟨g12, 0, none⟩) n c12 1 ((sealV key beside plain).map byteV) := own_sl (cs := (sealV key beside plain).map byteV) (by have h := ho12; unfold Ow at h; rwa [← hn] at h)
        have hSl13 : Sl w8 a13 m c13 1 (beside.map byteV) := own_sl (cs := beside.map byteV) (by have h := ho13; unfold Ow at h; rwa [← hm] at h)
        have hb13 : ∀ ad, a13 = some ad → beside.map byteV ≠ [] → w41.heap.size ≤ ad.block ∧ ad.block < w49.heap.size := fun ad e hne => by
          obtain ⟨q, hq, h1, h2⟩ := hh13 (fun h => hne (by rw [h]; rfl))
          rw [hq] at e
          obtain rfl := Option.some.inj e
          exact ⟨h1, h2⟩
        refine W.eqv (v' := byteV (UInt8.ofNat (shlM 256 8 1 (bit % 8).toNat))) (by rw [byteV_ofNat, Nat.mod_eq_of_lt (shl_lt _)]; rfl) ?_
        obtain ⟨y, hy⟩ : ∃ y, y = UInt8.ofNat (shlM 256 8 1 (bit % 8).toNat) := ⟨_, rfl⟩
        rw [← hy]
        refine W.assign rfl rfl ?_
        refine W.nil ?_
        refine At.thenCode ?_
        refine C.seq ?_
        refine C.region ?_
        refine W.move rfl rfl ?_
        refine W.move rfl rfl ?_
        refine W.lenS rfl Try.underlying24 rfl ?_
        refine W.move rfl rfl ?_
        refine W.lenS rfl Try.underlying24 rfl ?_
        first | refine W.addI rfl rfl (by omega) rfl ?_ | refine W.addW rfl rfl rfl ?_
        first | refine W.addI rfl rfl (by omega) rfl ?_ | refine W.addW rfl rfl rfl ?_
        first | refine W.remI rfl rfl (by omega) rfl ?_ | refine W.remW rfl rfl (by omega) rfl ?_
        refine W.eqv (v' := .int .i64 (i : Int)) (iV (by rw [hi, Int.natCast_emod, Int.toNat_of_nonneg (by omega)]; push_cast; rfl)) ?_
        refine W.assign rfl rfl ?_
        refine W.nil ?_
        refine At.thenCode ?_
        refine C.seqMid (X := (List UInt8) × (List UInt8) × (List UInt8)) (fun x_ => [(12, .slice (some ⟨g12, 0, none⟩) n c12), (13, .slice a13 m c13), (14, .pointer (some ⟨g14, 0, none⟩))]) (fun x_ wm0 => Ext w wm0 ∧ x_.1.length = n ∧ x_.2.1.length = m ∧ x_.2.2.length = 32 ∧ Sl wm0 (some ⟨g12, 0, none⟩) n c12 1 (x_.1.map byteV) ∧ Sl wm0 a13 m c13 1 (x_.2.1.map byteV) ∧ Bk wm0 g14 (x_.2.2.map byteV)) ?_ ?_
        · refine C.block ?_
          refine C.seq ?_
          refine C.region ?_
          refine W.move rfl rfl ?_
          refine W.move rfl rfl ?_
          refine W.lenS rfl Try.underlying24 rfl ?_
          refine W.lssI rfl rfl rfl ?_
          refine W.assign rfl rfl ?_
          refine W.nil ?_
          refine At.thenCode ?_
          first | refine C.condD rfl (fun c82 => ?_) (fun c82 => ?_) | refine C.cond rfl (fun c82 => ?_) (fun c82 => ?_)
          · have hin : i < n := by omega
            refine C.region ?_
            refine W.move rfl rfl ?_
            refine W.move rfl rfl ?_
            refine W.move rfl rfl ?_
            refine W.move rfl rfl ?_
            have ho12L : w8.ownsRow w20.heap.size 5 1 (.slice (some ⟨g12, 0, none⟩) n c12) n ((sealV key beside plain).map byteV) := by have h := ho12; unfold Ow at h; rwa [← hn] at h
            obtain ⟨u, hu⟩ : ∃ u, u = (sealV key beside plain).getD i 0 := ⟨_, rfl⟩
            have hgu : ((sealV key beside plain).map byteV)[i]? = some (byteV u) := by rw [List.getElem?_map, List.getElem?_eq_getElem (by omega), hu]; simp [List.getD, show i < (sealV key beside plain).length by omega]
            refine W.indexS (i := ((i : Nat) : Int)) E8 Try.underlying24 rfl (own_sl (ho12L)) rfl ⟨by omega, by omega⟩ rfl ?_
            intro ad91 _ had91 _
            obtain rfl : ad91 = ⟨g12, i, none⟩ := by rw [had91 _ rfl, add_mk, Int.toNat_natCast, Nat.zero_add, Nat.mul_one]
            refine W.load (v := byteV u) rfl Try.underlying5 rfl (by
              have h := (own_sl ho12L).at_ _ rfl i (byteV u) hgu
              rwa [add_mk, Nat.zero_add] at h) rfl ?_
            refine W.move rfl rfl ?_
            refine W.xorU (M := 256) (m := u.toNat) (n := y.toNat) rfl rfl rfl rfl rfl ?_
            refine W.eqv (v' := byteV (u ^^^ y)) (xor_comm_ok _ _).symm ?_
            refine W.indexS (i := ((i : Nat) : Int)) E8 Try.underlying24 rfl (own_sl ho12L) rfl ⟨by omega, by omega⟩ rfl ?_
            intro ad95 _ had95 _
            obtain rfl : ad95 = ⟨g12, i, none⟩ := by rw [had95 _ rfl, add_mk, Int.toNat_natCast, Nat.zero_add, Nat.mul_one]
            refine W.storeO rfl rfl rfl ho12L (by omega) (by kernel_rfl) ?_
            intro w9 hc9 hO9
            refine W.nil ?_
            refine At.blockNormal ?_
            refine At.thenMid ((sealV key beside plain).set i (u ^^^ y), beside, key) (Sub.cons (rfl) (Sub.cons (rfl) (Sub.cons (rfl) (Sub.nil)))) (show Ext w _ ∧ ((sealV key beside plain).set i (u ^^^ y)).length = n ∧ (beside).length = m ∧ (key).length = 32 ∧ Sl _ (some ⟨g12, 0, none⟩) n c12 1 (((sealV key beside plain).set i (u ^^^ y)).map byteV) ∧ Sl _ a13 m c13 1 ((beside).map byteV) ∧ Bk _ g14 ((key).map byteV) from ?_)
            refine ⟨hX8.news hc9 (fun k hk => Or.inr (by omega)), by rw [List.length_set, ← hn], hm.symm, hk, ?_, ?_, ?_⟩
            · rw [← map_set_byte]; exact own_sl hO9
            · exact hSl13.chg hc9 (fun ad e hne hk => by have h1 := hb13 ad e hne; omega)
            · exact hB8.chg hc9 (fun h => by omega)
          · have hni : ¬ i < n := by omega
            refine C.seq ?_
            refine C.region ?_
            refine W.move rfl rfl ?_
            refine W.move rfl rfl ?_
            refine W.lenS rfl Try.underlying24 rfl ?_
            refine W.move rfl rfl ?_
            refine W.lenS rfl Try.underlying24 rfl ?_
            first | refine W.addI rfl rfl (by omega) rfl ?_ | refine W.addW rfl rfl rfl ?_
            refine W.lssI rfl rfl rfl ?_
            refine W.assign rfl rfl ?_
            refine W.nil ?_
            refine At.thenCode ?_
            first | refine C.condD rfl (fun c96 => ?_) (fun c96 => ?_) | refine C.cond rfl (fun c96 => ?_) (fun c96 => ?_)
            · have hin2 : i - n < m := by omega
              obtain ⟨g13, hq13, hg13a, hg13b⟩ := hh13 (by intro h; rw [h] at hm; simp at hm; omega)
              refine C.region ?_
              refine W.move rfl rfl ?_
              refine W.move rfl rfl ?_
              refine W.move rfl rfl ?_
              refine W.lenS rfl Try.underlying24 rfl ?_
              first | refine W.subI rfl rfl (by omega) rfl ?_ | refine W.subW rfl rfl rfl ?_
              refine W.eqv (v' := .int .i64 ((i - n : Nat) : Int)) (iV (by omega)) ?_
              refine W.move rfl rfl ?_
              refine W.move rfl rfl ?_
              refine W.move rfl rfl ?_
              refine W.lenS rfl Try.underlying24 rfl ?_
              first | refine W.subI rfl rfl (by omega) rfl ?_ | refine W.subW rfl rfl rfl ?_
              refine W.eqv (v' := .int .i64 ((i - n : Nat) : Int)) (iV (by omega)) ?_
              have ho13L : w8.ownsRow w41.heap.size 5 1 (.slice (some ⟨g13, 0, none⟩) m c13) m (beside.map byteV) := by have h := ho13; unfold Ow at h; rwa [← hm, hq13] at h
              obtain ⟨u, hu⟩ : ∃ u, u = beside.getD (i - n) 0 := ⟨_, rfl⟩
              have hgu : (beside.map byteV)[i - n]? = some (byteV u) := by rw [List.getElem?_map, List.getElem?_eq_getElem (by omega), hu]; simp [List.getD, show i - n < beside.length by omega]
              refine W.indexS (i := ((i - n : Nat) : Int)) E8 Try.underlying24 rfl hSl13 rfl ⟨by omega, by omega⟩ rfl ?_
              intro ad114 _ had114 _
              obtain rfl : ad114 = ⟨g13, i - n, none⟩ := by rw [had114 _ hq13, add_mk, Int.toNat_natCast, Nat.zero_add, Nat.mul_one]
              refine W.load (v := byteV u) rfl Try.underlying5 rfl (by
                have h := hSl13.at_ _ hq13 (i - n) (byteV u) hgu
                rwa [add_mk, Nat.zero_add] at h) rfl ?_
              refine W.move rfl rfl ?_
              refine W.xorU (M := 256) (m := u.toNat) (n := y.toNat) rfl rfl rfl rfl rfl ?_
              refine W.eqv (v' := byteV (u ^^^ y)) (xor_comm_ok _ _).symm ?_
              refine W.indexS (i := ((i - n : Nat) : Int)) E8 Try.underlying24 rfl hSl13 rfl ⟨by omega, by omega⟩ rfl ?_
              intro ad118 _ had118 _
              obtain rfl : ad118 = ⟨g13, i - n, none⟩ := by rw [had118 _ hq13, add_mk, Int.toNat_natCast, Nat.zero_add, Nat.mul_one]
              refine W.storeO rfl rfl rfl ho13L (by omega) (by kernel_rfl) ?_
              intro w9 hc9 hO9
              refine W.nil ?_
              refine At.blockNormal ?_
              refine At.thenMid (sealV key beside plain, beside.set (i - n) (u ^^^ y), key) (Sub.cons (rfl) (Sub.cons (rfl) (Sub.cons (rfl) (Sub.nil)))) (show Ext w _ ∧ (sealV key beside plain).length = n ∧ (beside.set (i - n) (u ^^^ y)).length = m ∧ (key).length = 32 ∧ Sl _ (some ⟨g12, 0, none⟩) n c12 1 ((sealV key beside plain).map byteV) ∧ Sl _ a13 m c13 1 ((beside.set (i - n) (u ^^^ y)).map byteV) ∧ Bk _ g14 ((key).map byteV) from ?_)
              refine ⟨hX8.news hc9 (fun k hk => Or.inr (by omega)), hn.symm, by rw [List.length_set, ← hm], hk, ?_, ?_, ?_⟩
              · exact hSl12.chg hc9 (fun ad e hne hk => by obtain rfl := Option.some.inj e; simp only at hk; omega)
              · rw [← map_set_byte, hq13]; exact own_sl hO9
              · exact hB8.chg hc9 (fun h => by omega)
            · have hin3 : i - n - m < 32 := by omega
              refine C.region ?_
              refine W.move rfl rfl ?_
              refine W.move rfl rfl ?_
              refine W.lenS rfl Try.underlying24 rfl ?_
              first | refine W.subI rfl rfl (by omega) rfl ?_ | refine W.subW rfl rfl rfl ?_
              refine W.move rfl rfl ?_
              refine W.lenS rfl Try.underlying24 rfl ?_
              first | refine W.subI rfl rfl (by omega) rfl ?_ | refine W.subW rfl rfl rfl ?_
              refine W.eqv (v' := .int .i64 ((i - n - m : Nat) : Int)) (iV (by omega)) ?_
              refine W.move rfl rfl ?_
              refine W.move rfl rfl ?_
              refine W.lenS rfl Try.underlying24 rfl ?_
              first | refine W.subI rfl rfl (by omega) rfl ?_ | refine W.subW rfl rfl rfl ?_
              refine W.move rfl rfl ?_
              refine W.lenS rfl Try.underlying24 rfl ?_
              first | refine W.subI rfl rfl (by omega) rfl ?_ | refine W.subW rfl rfl rfl ?_
              refine W.eqv (v' := .int .i64 ((i - n - m : Nat) : Int)) (iV (by omega)) ?_
              obtain ⟨u, hu⟩ : ∃ u, u = key.getD (i - n - m) 0 := ⟨_, rfl⟩
              have hgu : (key.map byteV)[i - n - m]? = some (byteV u) := by rw [List.getElem?_map, List.getElem?_eq_getElem (by omega), hu]; simp [List.getD, show i - n - m < key.length by omega]
              refine W.indexA1 (j := i - n - m) X8 Try.underlying23 rfl rfl hin3 rfl ?_
              refine W.loadB rfl Try.underlying5 rfl hB8 hgu rfl ?_
              refine W.move rfl rfl ?_
              refine W.xorU (M := 256) (m := u.toNat) (n := y.toNat) rfl rfl rfl rfl rfl ?_
              refine W.eqv (v' := byteV (u ^^^ y)) (xor_comm_ok _ _).symm ?_
              refine W.indexA1 (j := i - n - m) X8 Try.underlying23 rfl rfl hin3 rfl ?_
              refine W.store1 rfl rfl rfl hB8 (by rw [List.length_map]; omega) (by kernel_rfl) ?_
              intro w9 hc9 hB9
              refine W.nil ?_
              refine At.blockNormal ?_
              refine At.thenMid (sealV key beside plain, beside, key.set (i - n - m) (u ^^^ y)) (Sub.cons (rfl) (Sub.cons (rfl) (Sub.cons (rfl) (Sub.nil)))) (show Ext w _ ∧ (sealV key beside plain).length = n ∧ (beside).length = m ∧ (key.set (i - n - m) (u ^^^ y)).length = 32 ∧ Sl _ (some ⟨g12, 0, none⟩) n c12 1 ((sealV key beside plain).map byteV) ∧ Sl _ a13 m c13 1 ((beside).map byteV) ∧ Bk _ g14 ((key.set (i - n - m) (u ^^^ y)).map byteV) from ?_)
              refine ⟨hX8.news hc9 (fun k hk => Or.inr (by omega)), hn.symm, hm.symm, by rw [List.length_set, hk], ?_, ?_, ?_⟩
              · exact hSl12.chg hc9 (fun ad e hne hk => by obtain rfl := Option.some.inj e; simp only at hk; omega)
              · exact hSl13.chg hc9 (fun ad e hne hk => by have h1 := hb13 ad e hne; omega)
              · rw [← map_set_byte]; exact hB9
        · rintro ⟨b2, s2, k2⟩ wm0 hI_
          replace hI_ : Ext w wm0 ∧ b2.length = n ∧ s2.length = m ∧ k2.length = 32 ∧ Sl wm0 (some ⟨g12, 0, none⟩) n c12 1 (b2.map byteV) ∧ Sl wm0 a13 m c13 1 (s2.map byteV) ∧ Bk wm0 g14 (k2.map byteV) := hI_
          obtain ⟨hXm, hbl, hsl2, hkl, hSb, hSs, hBk⟩ := hI_
          refine C.weaken (l' := [(12, .slice (some ⟨g12, 0, none⟩) n c12), (13, .slice a13 m c13), (14, .pointer (some ⟨g14, 0, none⟩))]) (Sub.cons (rfl) (Sub.cons (rfl) (Sub.cons (rfl) (Sub.nil)))) ?_
          refine C.seq ?_
          refine C.region ?_
          refine W.loadA rfl (hBk.cells (o := 0)) Try.underlying23 rfl (by rw [List.drop_zero, List.length_map, hkl]; kernel_rfl) rfl ?_
          refine W.move rfl rfl ?_
          refine W.move rfl rfl ?_
          have h12 : n = b2.length := hbl.symm
          have h13 : m = s2.length := hsl2.symm
          have hmo := Seal.Open_ok k2 a13 c13 s2 (some ⟨g12, 0, none⟩) c12 b2 wm0 hkl (by show Sl _ _ _ _ _ _; rw [hsl2]; exact hSs) (by show Sl _ _ _ _ _ _; rw [hbl]; exact hSb) (by omega) (by omega)
          rw [hsl2, hbl] at hmo
          refine W.call Try.call14 rfl hmo rfl ?_
          rintro v123 w123 ⟨⟨a123, k123, rfl, hS123, _⟩, hX123⟩
          refine W.move rfl rfl ?_
          refine W.extract rfl rfl rfl ?_
          refine W.extract rfl rfl rfl ?_
          refine W.assign rfl rfl ?_
          refine W.assign rfl rfl ?_
          refine W.nil ?_
          refine At.thenCode ?_
          refine C.seq ?_
          refine C.region ?_
          refine W.loadA rfl ((hBk.ext hX123).cells (o := 0)) Try.underlying23 rfl (by rw [List.drop_zero, List.length_map, hkl]; kernel_rfl) rfl ?_
          refine W.move rfl rfl ?_
          refine W.move rfl rfl ?_
          have hmo := Seal.ROpen_ok k2 a13 c13 s2 (some ⟨g12, 0, none⟩) c12 b2 w123 hkl (by show Sl _ _ _ _ _ _; rw [hsl2]; exact hSs.ext hX123) (by show Sl _ _ _ _ _ _; rw [hbl]; exact hSb.ext hX123) (by omega) (by omega)
          rw [hsl2, hbl] at hmo
          refine W.call Try.call16 rfl hmo rfl ?_
          rintro v130 w130 ⟨⟨a130, k130, rfl, hS130, _⟩, hX130⟩
          refine W.move rfl rfl ?_
          refine W.extract rfl rfl rfl ?_
          refine W.extract rfl rfl rfl ?_
          refine W.assign rfl rfl ?_
          refine W.assign rfl rfl ?_
          refine W.nil ?_
          refine At.thenCode ?_
          refine C.seq ?_
          refine C.region ?_
          refine W.move rfl rfl ?_
          refine W.move rfl rfl ?_
          refine W.eqlB rfl rfl Try.underlying4 rfl ?_
          refine W.eqv (bT (rfl)) ?_
          refine W.move rfl rfl ?_
          refine W.wants rfl rfl rfl rfl ?_
          refine W.move rfl rfl ?_
          refine W.wants rfl rfl rfl rfl ?_
          refine W.bytesStr Try.underlying24 Try.underlying5 Try.underlying9 rfl (hS123.ext hX130) rfl ?_
          refine W.wants rfl rfl rfl rfl ?_
          refine W.move rfl rfl ?_
          refine W.wants rfl rfl rfl rfl ?_
          refine W.bytesStr Try.underlying24 Try.underlying5 Try.underlying9 rfl hS130 rfl ?_
          refine W.wants rfl rfl rfl rfl ?_
          refine W.eqlStr (a := openV k2 s2 b2) (b := openV k2 s2 b2) rfl rfl rfl ?_
          refine W.eqv (bT (rfl)) ?_
          refine W.pickT rfl rfl rfl ?_
          refine W.assign rfl rfl ?_
          refine W.nil ?_
          refine At.thenCode ?_
          refine C.ret ?_
          refine At.ret1 Try.results5 rfl ?_
          first | exact ⟨rfl, Ext.below hX20a⟩ | exact ⟨rfl, Ext.below ((hXm.ext hX123).ext hX130)⟩
end Go.Proofs.Ytkjmllohbohliaa.Law5
