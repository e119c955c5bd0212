/- The walks of chapter 13's laws. -/
import Derived.Test.YtomfnficblnngaaPerm3
namespace Go.Proofs.Ytomfnficblnngaa.Law13
open Go Go.RowKit Go.Proofs.Ytomfnficblnngaa.KW Go.Proofs.Ytomfnficblnngaa.Words Go.Proofs.Ytomfnficblnngaa.Sha Go.Proofs.Ytomfnficblnngaa.Beacon Go.Proofs.Ytomfnficblnngaa.Ints Go.Proofs.Ytomfnficblnngaa.Perm
set_option linter.unusedVariables false
set_option linter.unusedSimpArgs false
set_option maxRecDepth 100000

theorem num_ok (e : Int) (w : World) : Ct Try.prog 28 #[.int .i64 e] w (fun v w' => v = .int .i64 e ∧ w = w') := by
  refine Ct.enter [(0, .int .i64 e)] Try.func28 rfl rfl rfl rfl ?_
  refine C.seq ?_
  refine C.region ?_
  refine W.assign rfl rfl ?_
  refine W.nil ?_
  refine At.thenCode ?_
  refine C.seq ?_
  refine C.region ?_
  refine W.move rfl rfl ?_
  refine W.assign rfl rfl ?_
  refine W.nil ?_
  refine At.thenCode ?_
  refine C.ret ?_
  refine At.ret1 Try.results28 rfl ?_
  exact ⟨rfl, rfl⟩
theorem of_one (f : Nat → Nat) : ofE f 1 = 0 ∧ ofL f 1 = [0] := by
  have h : ofE f 1 = 0 := by rw [ofE_sh (by decide)]; rfl
  exact ⟨h, by rw [ofL_fit h]; rfl⟩
theorem Rt_one : Rt [0] := idL_right 1
theorem ofE_cases {f : Nat → Nat} {n : Int} (h : 0 ≤ n ∧ n ≤ 1000) : ofE f n = 0 ∨ ofE f n = 9 := by
  rw [ofE_sh (by omega)]; exact shE_cases f _ _
theorem alive_ok (w : World) : Ct Try.prog 24 #[] w (fun v w' => v = .bool true ∧ Ext w w') := by
  refine Ct.enter [] Try.func24 rfl rfl rfl rfl ?_
  obtain ⟨seed, hseed⟩ : ∃ seed : List UInt8, seed = List.replicate 32 0 := ⟨_, rfl⟩
  have hs : seed.length = 32 := by rw [hseed]; rfl
  obtain ⟨h1, h2⟩ := of_one (wordV seed [97])
  refine C.seq ?_
  refine C.region ?_
  refine W.assign rfl rfl ?_
  refine W.nil ?_
  refine At.thenCode ?_
  refine C.seq ?_
  refine C.region ?_
  refine W.buildAF (List.replicate 32 (byteV 0)) (List.replicate 32 (byteV 0)) X8 Try.underlying23 (by kernel_rfl) rfl rfl rfl ?_
  refine W.eqv (v' := keyV seed) (by rw [hseed]; rfl) ?_
  refine W.call Try.call14 rfl (Beacon.New_ok seed [97] _ hs) rfl ?_
  rintro v5 w5 ⟨⟨g, rfl, hg, hS5⟩, hX5⟩
  refine W.call Try.call25 rfl (Perm.Of_ok g seed [97] 1 _ hs (by decide) hS5 (by decide)) rfl ?_
  rintro v6 w6 ⟨⟨a6, c6, rfl, hS6, hb6⟩, hc6⟩
  have hX6 : Ext w w6 := hX5.news hc6 (fun k hk => Or.inr (by omega))
  rw [h1, h2]
  rw [h2] at hS6
  refine W.move rfl rfl ?_
  refine W.extract rfl rfl rfl ?_
  refine W.extract rfl rfl rfl ?_
  refine W.assign rfl rfl ?_
  refine W.assign rfl rfl ?_
  refine W.nil ?_
  refine At.thenCode ?_
  refine C.seq ?_
  refine C.region ?_
  refine W.move rfl rfl ?_
  refine W.call Try.call28 rfl (num_ok _ _) rfl ?_
  rintro v10 w10 ⟨rfl, rfl⟩
  refine W.eqlI rfl rfl rfl ?_
  refine W.eqv (bT (rfl)) ?_
  refine W.move rfl rfl ?_
  refine W.wants rfl rfl rfl rfl ?_
  refine W.move rfl rfl ?_
  refine W.wants rfl rfl rfl rfl ?_
  refine W.lenS rfl Try.underlying48 rfl ?_
  refine W.wants rfl rfl rfl rfl ?_
  refine W.eqlI rfl rfl rfl ?_
  refine W.eqv (bT (rfl)) ?_
  refine W.pickT rfl rfl rfl ?_
  refine W.move rfl rfl ?_
  refine W.wants rfl rfl rfl rfl ?_
  refine W.move rfl rfl ?_
  refine W.wants rfl rfl rfl rfl ?_
  refine W.indexS (i := ((0 : Nat) : Int)) XI Try.underlying48 rfl hS6 rfl ⟨by decide, by decide⟩ rfl ?_
  intro ad19 _ _ hc19
  obtain ⟨ad19', he19, hc19'⟩ := PtI.of (xs := [0]) hc19 (by decide)
  obtain rfl : ad19 = ad19' := by injection he19 with h1; exact Option.some.inj h1
  refine W.wants rfl rfl rfl rfl ?_
  refine W.load (v := .int .i64 0) rfl Try.underlying3 rfl hc19' rfl ?_
  refine W.wants rfl rfl rfl rfl ?_
  refine W.eqlI rfl rfl rfl ?_
  refine W.eqv (bT (rfl)) ?_
  refine W.pickT rfl rfl rfl ?_
  refine W.move rfl rfl ?_
  refine W.wants rfl rfl rfl rfl ?_
  refine W.move rfl rfl ?_
  refine W.wants rfl rfl rfl rfl ?_
  refine W.call Try.call29 rfl (Perm.Right_ok a6 c6 [0] _ hS6 (by decide)) rfl ?_
  rintro v25 w25 ⟨rfl, hX25⟩
  rw [decide_eq_true Rt_one]
  refine W.pickT rfl rfl rfl ?_
  refine W.assign rfl rfl ?_
  refine W.nil ?_
  refine At.thenCode ?_
  refine C.ret ?_
  refine At.ret1 Try.results24 rfl ?_
  exact ⟨rfl, hX6.ext hX25⟩
theorem PermuteRight_walk (ao : Option Addr) (c : Nat) (L : List Int) (w : World) (hS : Zs w ao c L) (hl : L.length ≤ 9223372036854775807) (hb : ∀ x ∈ L, -9223372036854775808 ≤ x ∧ x ≤ 9223372036854775807) :
    Ct Try.prog 8 #[.slice ao L.length c] w (LawOk w) := by
  refine Ct.enter [(0, .slice ao L.length c)] Try.func8 rfl rfl rfl rfl ?_
  refine C.seq ?_
  refine C.region ?_
  refine W.assign rfl rfl ?_
  refine W.nil ?_
  refine At.thenCode ?_
  refine C.seq ?_
  refine C.region ?_
  refine W.call Try.call24 rfl (alive_ok _) rfl ?_
  rintro v8 w8 ⟨rfl, hX8⟩
  have hX8a := hX8
  have hS8 := hS.ext hX8
  refine W.assign rfl rfl ?_
  refine W.nil ?_
  refine At.thenCode ?_
  refine C.seq ?_
  refine C.seq ?_
  refine C.region ?_
  refine W.move rfl rfl ?_
  first | refine W.notD rfl rfl ?_ | refine W.notB rfl rfl ?_
  refine W.move rfl rfl ?_
  refine W.wants rfl rfl rfl rfl ?_
  refine W.move rfl rfl ?_
  refine W.wants rfl rfl rfl rfl ?_
  refine W.lenS rfl Try.underlying48 rfl ?_
  refine W.wants rfl rfl rfl rfl ?_
  refine W.gtrI rfl rfl rfl ?_
  refine W.pickF rfl rfl rfl ?_
  refine W.nil ?_
  refine At.thenCode ?_
  first | refine C.condD rfl (fun c15 => ?_) (fun c15 => ?_) | refine C.cond rfl (fun c15 => ?_) (fun c15 => ?_)
  · refine C.seq ?_
    refine C.region ?_
    refine W.move rfl rfl ?_
    refine W.assign rfl rfl ?_
    refine W.nil ?_
    refine At.thenCode ?_
    refine C.ret ?_
    refine At.thenRet ?_
    refine At.ret1 Try.results8 rfl ?_
    first | exact ⟨rfl, Ext.below hX8⟩ | exact ⟨rfl, Ext.below ((((hXa.ext hX25).ext hX29).ext hX31).ext hX36)⟩
  · refine C.skip ?_
    refine At.thenCode ?_
    refine C.seq ?_
    refine C.region ?_
    refine W.move rfl rfl ?_
    refine W.append XI Try.underlying48 rfl rfl (World.ownsRow_nil _ w8.heap.size _ _) hS8 (fun u hu => by obtain ⟨_, _, rfl⟩ := List.mem_map.1 hu; rfl) (by omega) (by omega) (Nat.le_refl _) rfl ?_
    intro v19 w19 ho19 hg19 _
    rw [List.nil_append, Nat.zero_add] at ho19
    have hX19 : Ext w8 w19 := (Chg.of_grown hg19).mono fun k hk => by cases hk
    obtain ⟨a19, c19, rfl, hS19, _⟩ := ownsRow_form ho19
    refine W.call Try.call30 rfl (Perm.Inverse_ok a19 c19 L _ hS19 (by omega)) rfl ?_
    rintro v20 w20 ⟨⟨a20, c20, rfl, hS20, _⟩, hX20⟩
    have hXa := (hX8a.ext hX19).ext hX20
    refine W.move rfl rfl ?_
    refine W.extract rfl rfl rfl ?_
    refine W.extract rfl rfl rfl ?_
    refine W.assign rfl rfl ?_
    refine W.assign rfl rfl ?_
    refine W.nil ?_
    refine At.thenCode ?_
    refine C.seq ?_
    refine C.region ?_
    refine W.move rfl rfl ?_
    refine W.call Try.call31 rfl (Perm.RInverse_ok ao c L _ (hS.ext hXa) (by omega)) rfl ?_
    rintro v25 w25 ⟨⟨a25, c25, rfl, hS25, _⟩, hX25⟩
    refine W.move rfl rfl ?_
    refine W.extract rfl rfl rfl ?_
    refine W.extract rfl rfl rfl ?_
    refine W.assign rfl rfl ?_
    refine W.assign rfl rfl ?_
    refine W.nil ?_
    refine At.thenCode ?_
    refine C.seq ?_
    refine C.region ?_
    refine W.move rfl rfl ?_
    refine W.call Try.call29 rfl (Perm.Right_ok ao c L _ ((hS.ext hXa).ext hX25) (by omega)) rfl ?_
    rintro v29 w29 ⟨rfl, hX29⟩
    refine W.move rfl rfl ?_
    refine W.call Try.call32 rfl (Perm.RightOrder_ok ao c L _ (((hS.ext hXa).ext hX25).ext hX29) (by omega)) rfl ?_
    rintro v31 w31 ⟨rfl, hX31⟩
    refine W.eqlB rfl rfl Try.underlying4 rfl ?_
    refine W.eqv (v' := .bool true) (by simp) ?_
    refine W.move rfl rfl ?_
    refine W.wants rfl rfl rfl rfl ?_
    refine W.move rfl rfl ?_
    refine W.wants rfl rfl rfl rfl ?_
    refine W.move rfl rfl ?_
    refine W.wants rfl rfl rfl rfl ?_
    have hil : (invR L).length ≤ L.length := by unfold invR; split; · rw [invL_length]; exact Nat.le_refl _
                                                · exact Nat.zero_le _
    refine W.call Try.call27 rfl (Ints.SameInts_ok a20 c20 (invR L) a25 c25 (invR L) _ (((hS20.ext hX25).ext hX29).ext hX31) ((hS25.ext hX29).ext hX31) (by omega)) rfl ?_
    rintro v36 w36 ⟨rfl, hX36⟩
    refine W.eqv (v' := .bool true) (by simp) ?_
    refine W.pickT rfl rfl rfl ?_
    refine W.move rfl rfl ?_
    refine W.wants rfl rfl rfl rfl ?_
    refine W.move rfl rfl ?_
    refine W.wants rfl rfl rfl rfl ?_
    refine W.move rfl rfl ?_
    refine W.wants rfl rfl rfl rfl ?_
    refine W.eqlB rfl rfl Try.underlying4 rfl ?_
    refine W.eqv (v' := .bool true) (by simp) ?_
    refine W.pickT rfl rfl rfl ?_
    refine W.assign rfl rfl ?_
    refine W.nil ?_
    refine At.thenCode ?_
    refine C.ret ?_
    refine At.ret1 Try.results8 rfl ?_
    first | exact ⟨rfl, Ext.below hX8⟩ | exact ⟨rfl, Ext.below ((((hXa.ext hX25).ext hX29).ext hX31).ext hX36)⟩
theorem PermuteOf_walk (n : Int) (seed : List UInt8) (w : World) (hb : -9223372036854775808 ≤ n ∧ n ≤ 9223372036854775807) (hs : seed.length = 32) :
    Ct Try.prog 7 #[.int .i64 n, keyV seed] w (LawOk w) := by
  refine Ct.enter [(0, .int .i64 n), (1, keyV seed)] Try.func7 rfl rfl rfl rfl ?_
  obtain ⟨f, hf⟩ : ∃ f, f = wordV seed [109] := ⟨_, rfl⟩
  have hle := ofL_le f n
  refine C.seq ?_
  refine C.region ?_
  refine W.box (seed.map byteV) rfl rfl rfl ?_
  intro g3 w3 hg3 hX3 hB3
  refine W.assign rfl rfl ?_
  refine W.nil ?_
  refine At.thenCode ?_
  refine C.seq ?_
  refine C.region ?_
  refine W.call Try.call24 rfl (alive_ok _) rfl ?_
  rintro v10 w10 ⟨rfl, hX10⟩
  have hX10a := hX3.ext hX10
  have hB10 := hB3.ext hX10
  refine W.assign rfl rfl ?_
  refine W.nil ?_
  refine At.thenCode ?_
  refine C.seq ?_
  refine C.seq ?_
  refine C.region ?_
  refine W.move rfl rfl ?_
  first | refine W.notD rfl rfl ?_ | refine W.notB rfl rfl ?_
  refine W.move rfl rfl ?_
  refine W.wants rfl rfl rfl rfl ?_
  refine W.move rfl rfl ?_
  refine W.wants rfl rfl rfl rfl ?_
  refine W.gtrI rfl rfl rfl ?_
  refine W.wants rfl rfl rfl rfl ?_
  refine W.move rfl rfl ?_
  first | refine W.splitD (fun g16 => ?_) (fun g16 => ?_) | refine W.splitB (fun g16 => ?_) (fun g16 => ?_)
  · refine W.wants rfl rfl rfl rfl ?_
    refine W.move rfl rfl ?_
    refine W.wants rfl rfl rfl rfl ?_
    refine W.leqI rfl rfl rfl ?_
    refine W.wants rfl rfl rfl rfl ?_
    refine W.pickT rfl rfl rfl ?_
    refine W.pickF rfl rfl rfl ?_
    refine W.nil ?_
    refine At.thenCode ?_
    first | refine C.condD rfl (fun c20 => ?_) (fun c20 => ?_) | refine C.cond rfl (fun c20 => ?_) (fun c20 => ?_)
    · refine C.seq ?_
      refine C.region ?_
      refine W.move rfl rfl ?_
      refine W.assign rfl rfl ?_
      refine W.nil ?_
      refine At.thenCode ?_
      refine C.ret ?_
      refine At.thenRet ?_
      refine At.ret1 Try.results7 rfl ?_
      first | exact ⟨rfl, Ext.below hX10a⟩ | exact ⟨rfl, Ext.below ((hX33.ext hX38).ext hX47)⟩
    · refine C.skip ?_
      refine At.thenCode ?_
      refine C.seq ?_
      refine C.region ?_
      refine W.move rfl rfl ?_
      refine W.loadA rfl (hB10.cells (o := 0)) Try.underlying23 rfl (by rw [List.drop_zero, List.length_map, hs]; kernel_rfl) rfl ?_
      refine W.call Try.call14 rfl (Beacon.New_ok seed [109] _ hs) rfl ?_
      rintro v25 w25 ⟨⟨g1, rfl, hg1, hS1⟩, hX25⟩
      refine W.call Try.call25 rfl (Perm.Of_ok g1 seed [109] n _ hs (by decide) hS1 hb) rfl ?_
      rw [← hf]
      rintro v26 w26 ⟨⟨a26, c26, rfl, hS26, hb26⟩, hc26⟩
      have hs10 := hX10a.size
      have hlt := hB10.lt
      have hX26 : Ext w w26 := (hX10a.ext hX25).news hc26 (fun k hk => Or.inr (by omega))
      have hB26 : Bk w26 g3 (seed.map byteV) := (hB10.ext hX25).chg hc26 (by omega)
      refine W.move rfl rfl ?_
      refine W.extract rfl rfl rfl ?_
      refine W.extract rfl rfl rfl ?_
      refine W.assign rfl rfl ?_
      refine W.assign rfl rfl ?_
      refine W.nil ?_
      refine At.thenCode ?_
      refine C.seq ?_
      refine C.region ?_
      refine W.move rfl rfl ?_
      refine W.loadA rfl (hB26.cells (o := 0)) Try.underlying23 rfl (by rw [List.drop_zero, List.length_map, hs]; kernel_rfl) rfl ?_
      refine W.call Try.call15 rfl (Beacon.RNew_ok seed [109] _ hs) rfl ?_
      rintro v32 w32 ⟨⟨g2, rfl, hg2, hS2⟩, hX32⟩
      have hS26 := hS26.ext hX32
      refine W.call Try.call26 rfl (Perm.Order_ok g2 seed [109] n _ hs (by decide) hS2 hb) rfl ?_
      rw [← hf]
      rintro v33 w33 ⟨⟨a33, c33, rfl, hS33, hb33⟩, hc33⟩
      have hs26 := hX26.size
      have hX33 : Ext w w33 := (hX26.ext hX32).news hc33 (fun k hk => Or.inr (by omega))
      have hS26 : Zs w33 a26 c26 (ofL f n) := hS26.chg hc33 (fun ad e hne hk => by
        have := Sl.blk (by assumption : Sl w26 a26 (ofL f n).length c26 1 ((ofL f n).map (.int .i64))) e hne
        omega)
      refine W.move rfl rfl ?_
      refine W.extract rfl rfl rfl ?_
      refine W.extract rfl rfl rfl ?_
      refine W.assign rfl rfl ?_
      refine W.assign rfl rfl ?_
      refine W.nil ?_
      refine At.thenCode ?_
      refine C.seq ?_
      refine C.region ?_
      refine W.move rfl rfl ?_
      refine W.move rfl rfl ?_
      refine W.call Try.call27 rfl (Ints.SameInts_ok a26 c26 (ofL f n) a33 c33 (ofL f n) _ hS26 hS33 (by omega)) rfl ?_
      rintro v38 w38 ⟨rfl, hX38⟩
      refine W.eqv (v' := .bool true) (by simp) ?_
      refine W.move rfl rfl ?_
      refine W.wants rfl rfl rfl rfl ?_
      refine W.move rfl rfl ?_
      refine W.wants rfl rfl rfl rfl ?_
      refine W.call Try.call28 rfl (num_ok _ _) rfl ?_
      rintro v41 w41 ⟨rfl, rfl⟩
      refine W.wants rfl rfl rfl rfl ?_
      refine W.move rfl rfl ?_
      refine W.wants rfl rfl rfl rfl ?_
      refine W.eqlI rfl rfl rfl ?_
      refine W.eqv (v' := .bool true) (by simp) ?_
      refine W.pickT rfl rfl rfl ?_
      refine W.move rfl rfl ?_
      refine W.wants rfl rfl rfl rfl ?_
      refine W.move rfl rfl ?_
      refine W.wants rfl rfl rfl rfl ?_
      refine W.call Try.call29 rfl (Perm.Right_ok a26 c26 (ofL f n) _ (hS26.ext hX38) (by omega)) rfl ?_
      rintro v47 w47 ⟨rfl, hX47⟩
      rw [decide_eq_true (ofL_right f n)]
      refine W.pickT rfl rfl rfl ?_
      refine W.assign rfl rfl ?_
      refine W.nil ?_
      refine At.thenCode ?_
      refine C.ret ?_
      refine At.ret1 Try.results7 rfl ?_
      first | exact ⟨rfl, Ext.below hX10a⟩ | exact ⟨rfl, Ext.below ((hX33.ext hX38).ext hX47)⟩
  · refine W.skips rfl rfl rfl rfl rfl rfl ?_
    refine W.skips rfl rfl rfl rfl rfl rfl ?_
    refine W.wants rfl rfl rfl rfl ?_
    refine W.pickF rfl rfl rfl ?_
    refine W.pickF rfl rfl rfl ?_
    refine W.nil ?_
    refine At.thenCode ?_
    refine C.condF rfl ?_
    refine C.skip ?_
    refine At.thenCode ?_
    refine C.seq ?_
    refine C.region ?_
    refine W.move rfl rfl ?_
    refine W.loadA rfl (hB10.cells (o := 0)) Try.underlying23 rfl (by rw [List.drop_zero, List.length_map, hs]; kernel_rfl) rfl ?_
    refine W.call Try.call14 rfl (Beacon.New_ok seed [109] _ hs) rfl ?_
    rintro v25 w25 ⟨⟨g1, rfl, hg1, hS1⟩, hX25⟩
    refine W.call Try.call25 rfl (Perm.Of_ok g1 seed [109] n _ hs (by decide) hS1 hb) rfl ?_
    rw [← hf]
    rintro v26 w26 ⟨⟨a26, c26, rfl, hS26, hb26⟩, hc26⟩
    have hs10 := hX10a.size
    have hlt := hB10.lt
    have hX26 : Ext w w26 := (hX10a.ext hX25).news hc26 (fun k hk => Or.inr (by omega))
    have hB26 : Bk w26 g3 (seed.map byteV) := (hB10.ext hX25).chg hc26 (by omega)
    refine W.move rfl rfl ?_
    refine W.extract rfl rfl rfl ?_
    refine W.extract rfl rfl rfl ?_
    refine W.assign rfl rfl ?_
    refine W.assign rfl rfl ?_
    refine W.nil ?_
    refine At.thenCode ?_
    refine C.seq ?_
    refine C.region ?_
    refine W.move rfl rfl ?_
    refine W.loadA rfl (hB26.cells (o := 0)) Try.underlying23 rfl (by rw [List.drop_zero, List.length_map, hs]; kernel_rfl) rfl ?_
    refine W.call Try.call15 rfl (Beacon.RNew_ok seed [109] _ hs) rfl ?_
    rintro v32 w32 ⟨⟨g2, rfl, hg2, hS2⟩, hX32⟩
    have hS26 := hS26.ext hX32
    refine W.call Try.call26 rfl (Perm.Order_ok g2 seed [109] n _ hs (by decide) hS2 hb) rfl ?_
    rw [← hf]
    rintro v33 w33 ⟨⟨a33, c33, rfl, hS33, hb33⟩, hc33⟩
    have hs26 := hX26.size
    have hX33 : Ext w w33 := (hX26.ext hX32).news hc33 (fun k hk => Or.inr (by omega))
    have hS26 : Zs w33 a26 c26 (ofL f n) := hS26.chg hc33 (fun ad e hne hk => by
      have := Sl.blk (by assumption : Sl w26 a26 (ofL f n).length c26 1 ((ofL f n).map (.int .i64))) e hne
      omega)
    refine W.move rfl rfl ?_
    refine W.extract rfl rfl rfl ?_
    refine W.extract rfl rfl rfl ?_
    refine W.assign rfl rfl ?_
    refine W.assign rfl rfl ?_
    refine W.nil ?_
    refine At.thenCode ?_
    refine C.seq ?_
    refine C.region ?_
    refine W.move rfl rfl ?_
    refine W.move rfl rfl ?_
    refine W.call Try.call27 rfl (Ints.SameInts_ok a26 c26 (ofL f n) a33 c33 (ofL f n) _ hS26 hS33 (by omega)) rfl ?_
    rintro v38 w38 ⟨rfl, hX38⟩
    refine W.eqv (v' := .bool true) (by simp) ?_
    refine W.move rfl rfl ?_
    refine W.wants rfl rfl rfl rfl ?_
    refine W.move rfl rfl ?_
    refine W.wants rfl rfl rfl rfl ?_
    refine W.call Try.call28 rfl (num_ok _ _) rfl ?_
    rintro v41 w41 ⟨rfl, rfl⟩
    refine W.wants rfl rfl rfl rfl ?_
    refine W.move rfl rfl ?_
    refine W.wants rfl rfl rfl rfl ?_
    refine W.eqlI rfl rfl rfl ?_
    refine W.eqv (v' := .bool true) (by simp) ?_
    refine W.pickT rfl rfl rfl ?_
    refine W.move rfl rfl ?_
    refine W.wants rfl rfl rfl rfl ?_
    refine W.move rfl rfl ?_
    refine W.wants rfl rfl rfl rfl ?_
    refine W.call Try.call29 rfl (Perm.Right_ok a26 c26 (ofL f n) _ (hS26.ext hX38) (by omega)) rfl ?_
    rintro v47 w47 ⟨rfl, hX47⟩
    rw [decide_eq_true (ofL_right f n)]
    refine W.pickT rfl rfl rfl ?_
    refine W.assign rfl rfl ?_
    refine W.nil ?_
    refine At.thenCode ?_
    refine C.ret ?_
    refine At.ret1 Try.results7 rfl ?_
    first | exact ⟨rfl, Ext.below hX10a⟩ | exact ⟨rfl, Ext.below ((hX33.ext hX38).ext hX47)⟩
end Go.Proofs.Ytomfnficblnngaa.Law13
