/- The walks of chapter 13's laws. -/
import Derived.Test.YtomfnficblnngaaPerm3
namespace Go.Proofs.Ytomfnficblnngaa.Law13
open Go Go.RowKit Go.Proofs.Ytomfnficblnngaa.KW Go.Proofs.Ytomfnficblnngaa.Words Go.Proofs.Ytomfnficblnngaa.Sha Go.Proofs.Ytomfnficblnngaa.Beacon Go.Proofs.Ytomfnficblnngaa.Ints Go.Proofs.Ytomfnficblnngaa.Perm
set_option linter.unusedVariables false
set_option linter.unusedSimpArgs false
set_option maxRecDepth 100000

theorem num_ok (e : Int) (w : World) : Ct Try.prog 28 #[.int .i64 e] w (fun v w' => v = .int .i64 e ∧ w = w') := by
  refine Ct.enter [(0, .int .i64 e)] Try.func28 rfl rfl rfl rfl ?_
  refine C.seq ?_
  refine C.region ?_
  refine W.assign rfl rfl ?_
  refine W.nil ?_
  refine At.thenCode ?_
  refine C.seq ?_
  refine C.region ?_
  refine W.move rfl rfl ?_
  refine W.assign rfl rfl ?_
  refine W.nil ?_
  refine At.thenCode ?_
  refine C.ret ?_
  refine At.ret1 Try.results28 rfl ?_
  exact ⟨rfl, rfl⟩
theorem of_one (f : Nat → Nat) : ofE f 1 = 0 ∧ ofL f 1 = [0] := by
  have h : ofE f 1 = 0 := by rw [ofE_sh (by decide)]; rfl
  exact ⟨h, by rw [ofL_fit h]; rfl⟩
theorem Rt_one : Rt [0] := idL_right 1
theorem ofE_cases {f : Nat → Nat} {n : Int} (h : 0 ≤ n ∧ n ≤ 1000) : ofE f n = 0 ∨ ofE f n = 9 := by
  rw [ofE_sh (by omega)]; exact shE_cases f _ _
theorem alive_ok (w : World) : Ct Try.prog 24 #[] w (fun v w' => v = .bool true ∧ Ext w w') := by
  refine Ct.enter [] Try.func24 rfl rfl rfl rfl ?_
  obtain ⟨seed, hseed⟩ : ∃ seed : List UInt8, seed = List.replicate 32 0 := ⟨_, rfl⟩
  have hs : seed.length = 32 := by rw [hseed]; rfl
  obtain ⟨h1, h2⟩ := of_one (wordV seed [97])
  refine C.seq ?_
  refine C.region ?_
  refine W.assign rfl rfl ?_
  refine W.nil ?_
  refine At.thenCode ?_
  refine C.seq ?_
  refine C.region ?_
  refine W.buildAF (List.replicate 32 (byteV 0)) (List.replicate 32 (byteV 0)) X8 Try.underlying23 (by kernel_rfl) rfl rfl rfl ?_
  refine W.eqv (v' := keyV seed) (by rw [hseed]; rfl) ?_
  refine W.call Try.call14 rfl (Beacon.New_ok seed [97] _ hs) rfl ?_
  rintro v5 w5 ⟨⟨g, rfl, hg, hS5⟩, hX5⟩
  refine W.call Try.call25 rfl (Perm.Of_ok g seed [97] 1 _ hs (by decide) hS5 (by decide)) rfl ?_
  rintro v6 w6 ⟨⟨a6, c6, rfl, hS6, hb6⟩, hc6⟩
  have hX6 : Ext w w6 := hX5.news hc6 (fun k hk => Or.inr (by omega))
  rw [h1, h2]
  rw [h2] at hS6
  refine W.move rfl rfl ?_
  refine W.extract rfl rfl rfl ?_
  refine W.extract rfl rfl rfl ?_
  refine W.assign rfl rfl ?_
  refine W.assign rfl rfl ?_
  refine W.nil ?_
  refine At.thenCode ?_
  refine C.seq ?_
  refine C.region ?_
  refine W.move rfl rfl ?_
  refine W.call Try.call28 rfl (num_ok _ _) rfl ?_
  rintro v10 w10 ⟨rfl, rfl⟩
  refine W.eqlI rfl rfl rfl ?_
  refine W.eqv (bT (rfl)) ?_
  refine W.move rfl rfl ?_
  refine W.wants rfl rfl rfl rfl ?_
  refine W.move rfl rfl ?_
  refine W.wants rfl rfl rfl rfl ?_
  refine W.lenS rfl Try.underlying48 rfl ?_
  refine W.wants rfl rfl rfl rfl ?_
  refine W.eqlI rfl rfl rfl ?_
  refine W.eqv (bT (rfl)) ?_
  refine W.pickT rfl rfl rfl ?_
  refine W.move rfl rfl ?_
  refine W.wants rfl rfl rfl rfl ?_
  refine W.move rfl rfl ?_
  refine W.wants rfl rfl rfl rfl ?_
  refine W.indexS (i := ((0 : Nat) : Int)) XI Try.underlying48 rfl hS6 rfl ⟨by decide, by decide⟩ rfl ?_
  intro ad19 _ _ hc19
  obtain ⟨ad19', he19, hc19'⟩ := PtI.of (xs := [0]) hc19 (by decide)
  obtain rfl : ad19 = ad19' := by injection he19 with h1; exact Option.some.inj h1
  refine W.wants rfl rfl rfl rfl ?_
  refine W.load (v := .int .i64 0) rfl Try.underlying3 rfl hc19' rfl ?_
  refine W.wants rfl rfl rfl rfl ?_
  refine W.eqlI rfl rfl rfl ?_
  refine W.eqv (bT (rfl)) ?_
  refine W.pickT rfl rfl rfl ?_
  refine W.move rfl rfl ?_
  refine W.wants rfl rfl rfl rfl ?_
  refine W.move rfl rfl ?_
  refine W.wants rfl rfl rfl rfl ?_
  refine W.call Try.call29 rfl (Perm.Right_ok a6 c6 [0] _ hS6 (by decide)) rfl ?_
  rintro v25 w25 ⟨rfl, hX25⟩
  rw [decide_eq_true Rt_one]
  refine W.pickT rfl rfl rfl ?_
  refine W.assign rfl rfl ?_
  refine W.nil ?_
  refine At.thenCode ?_
  refine C.ret ?_
  refine At.ret1 Try.results24 rfl ?_
  exact ⟨rfl, hX6.ext hX25⟩
theorem PermuteRight_walk (ao : Option Addr) (c : Nat) (L : List Int) (w : World) (hS : Zs w ao c L) (hl : L.length ≤ 9223372036854775807) (hb : ∀ x ∈ L, -9223372036854775808 ≤ x ∧ x ≤ 9223372036854775807) :
    Ct Try.prog 8 #[.slice ao L.length c] w (LawOk w) := by
  refine Ct.enter [(0, .slice ao L.length c)] Try.func8 rfl rfl rfl rfl ?_
  refine C.seq ?_
  refine C.region ?_
  refine W.assign rfl rfl ?_
  refine W.nil ?_
  refine At.thenCode ?_
  refine C.seq ?_
  refine C.region ?_
  refine W.call Try.call24 rfl (alive_ok _) rfl ?_
  rintro v8 w8 ⟨rfl, hX8⟩
  have hX8a := hX8
  have hS8 := hS.ext hX8
  refine W.assign rfl rfl ?_
  refine W.nil ?_
  refine At.thenCode ?_
  refine C.seq ?_
  refine C.seq ?_
  refine C.region ?_
  refine W.move rfl rfl ?_
  first | refine W.notD rfl rfl ?_ | refine W.notB rfl rfl ?_
  refine W.move rfl rfl ?_
  refine W.wants rfl rfl rfl rfl ?_
  refine W.move rfl rfl ?_
  refine W.wants rfl rfl rfl rfl ?_
  refine W.lenS rfl Try.underlying48 rfl ?_
  refine W.wants rfl rfl rfl rfl ?_
  refine W.gtrI rfl rfl rfl ?_
  refine W.pickF rfl rfl rfl ?_
  refine W.nil ?_
  refine At.thenCode ?_
  first | refine C.condD rfl (fun c15 => ?_) (fun c15 => ?_) | refine C.cond rfl (fun c15 => ?_) (fun c15 => ?_)
  · refine C.seq ?_
    refine C.region ?_
    refine W.move rfl rfl ?_
    refine W.assign rfl rfl ?_
    refine W.nil ?_
    refine At.thenCode ?_
    refine C.ret ?_
    refine At.thenRet ?_
    refine At.ret1 Try.results8 rfl ?_
    first | exact ⟨rfl, Ext.below hX8⟩ | exact ⟨rfl, Ext.below ((((hXa.ext hX25).ext hX29).ext hX31).ext hX36)⟩
  · refine C.skip ?_
    refine At.thenCode ?_
    refine C.seq ?_
    refine C.region ?_
    refine W.move rfl rfl ?_
    refine W.append XI Try.underlying48 rfl rfl (World.ownsRow_nil _ w8.heap.size _ _) hS8 (fun u hu => by obtain ⟨_, _, rfl⟩ := List.mem_map.1 hu; rfl) (by omega) (by omega) (Nat.le_refl _) rfl ?_
    intro v19 w19 ho19 hg19 _
    rw [List.nil_append, Nat.zero_add] at ho19
    have hX19 : Ext w8 w19 := (Chg.of_grown hg19).mono fun k hk => by cases hk
    obtain ⟨a19, c19, rfl, hS19, _⟩ := ownsRow_form ho19
    refine W.call Try.call30 rfl (Perm.Inverse_ok a19 c19 L _ hS19 (by omega)) rfl ?_
    rintro v20 w20 ⟨⟨a20, c20, rfl, hS20, _⟩, hX20⟩
    have hXa := (hX8a.ext hX19).ext hX20
    refine W.move rfl rfl ?_
    refine W.extract rfl rfl rfl ?_
    refine W.extract rfl rfl rfl ?_
    refine W.assign rfl rfl ?_
    refine W.assign rfl rfl ?_
    refine W.nil ?_
    refine At.thenCode ?_
    refine C.seq ?_
    refine C.region ?_
    refine W.move rfl rfl ?_
    refine W.call Try.call31 rfl (Perm.RInverse_ok ao c L _ (hS.ext hXa) (by omega)) rfl ?_
    rintro v25 w25 ⟨⟨a25, c25, rfl, hS25, _⟩, hX25⟩
    refine W.move rfl rfl ?_
    refine W.extract rfl rfl rfl ?_
    refine W.extract rfl rfl rfl ?_
    refine W.assign rfl rfl ?_
    refine W.assign rfl rfl ?_
    refine W.nil ?_
    refine At.thenCode ?_
    refine C.seq ?_
    refine C.region ?_
    refine W.move rfl rfl ?_
    refine W.call Try.call29 rfl (Perm.Right_ok ao c L _ ((hS.ext hXa).ext hX25) (by omega)) rfl ?_
    rintro v29 w29 ⟨rfl, hX29⟩
    refine W.move rfl rfl ?_
    refine W.call Try.call32 rfl (Perm.RightOrder_ok ao c L _ (((hS.ext hXa).ext hX25).ext hX29) (by omega)) rfl ?_
    rintro v31 w31 ⟨rfl, hX31⟩
    refine W.eqlB rfl rfl Try.underlying4 rfl ?_
    refine W.eqv (v' := .bool true) (by simp) ?_
    refine W.move rfl rfl ?_
    refine W.wants rfl rfl rfl rfl ?_
    refine W.move rfl rfl ?_
    refine W.wants rfl rfl rfl rfl ?_
    refine W.move rfl rfl ?_
    refine W.wants rfl rfl rfl rfl ?_
    have hil : (invR L).length ≤ L.length := by unfold invR; split; · rw [invL_length]; exact Nat.le_refl _
                                                · exact Nat.zero_le _
    refine W.call Try.call27 rfl (Ints.SameInts_ok a20 c20 (invR L) a25 c25 (invR L) _ (((hS20.ext hX25).ext hX29).ext hX31) ((hS25.ext hX29).ext hX31) (by omega)) rfl ?_
    rintro v36 w36 ⟨rfl, hX36⟩
    refine W.eqv (v' := .bool true) (by simp) ?_
    refine W.pickT rfl rfl rfl ?_
    refine W.move rfl rfl ?_
    refine W.wants rfl rfl rfl rfl ?_
    refine W.move rfl rfl ?_
    refine W.wants rfl rfl rfl rfl ?_
    refine W.move rfl rfl ?_
    refine W.wants rfl rfl rfl rfl ?_
    refine W.eqlB rfl rfl Try.underlying4 rfl ?_
    refine W.eqv (v' := .bool true) (by simp) ?_
    refine W.pickT rfl rfl rfl ?_
    refine W.assign rfl rfl ?_
    refine W.nil ?_
    refine At.thenCode ?_
    refine C.ret ?_
    refine At.ret1 Try.results8 rfl ?_
    first | exact ⟨rfl, Ext.below hX8⟩ | exact ⟨rfl, Ext.below ((((hXa.ext hX25).ext hX29).ext hX31).ext hX36)⟩
theorem PermuteOf_walk (n : Int) (seed : List UInt8) (w : World) (hb : -9223372036854775808 ≤ n ∧ n ≤ 9223372036854775807) (hs : seed.length = 32) :
    Ct Try.prog 7 #[.int .i64 n, keyV seed] w (LawOk w) := by
  refine Ct.enter [(0, .int .i64 n), (1, keyV seed)] Try.func7 rfl rfl rfl rfl ?_
  obtain ⟨f, hf⟩ : ∃ f, f = wordV seed [109] := ⟨_, rfl⟩
  have hle := ofL_le f n
  refine C.seq ?_
  refine C.region ?_
  refine W.box (seed.map byteV) rfl rfl rfl ?_
  intro g3 w3 hg3 hX3 hB3
  refine W.assign rfl rfl ?_
  refine W.nil ?_
  refine At.thenCode ?_
  refine C.seq ?_
  refine C.region ?_
  refine W.call Try.call24 rfl (alive_ok _) rfl ?_
  rintro v10 w10 ⟨rfl, hX10⟩
  have hX10a := hX3.ext hX10
  have hB10 := hB3.ext hX10
  refine W.assign rfl rfl ?_
  refine W.nil ?_
  refine At.thenCode ?_
  refine C.seq ?_
  refine C.seq ?_
  refine C.region ?_
  refine W.move rfl rfl ?_
  first | refine W.notD rfl rfl ?_ | refine W.notB rfl rfl ?_
  refine W.move rfl rfl ?_
  refine W.wants rfl rfl rfl rfl ?_
  refine W.move rfl rfl ?_
  refine W.wants rfl rfl rfl rfl ?_
  refine W.gtrI rfl rfl rfl ?_
  refine W.wants rfl rfl rfl rfl ?_
  refine W.move rfl rfl ?_
  first | refine W.splitD (fun g16 => ?_) (fun g16 => ?_) | refine W.splitB (fun g16 => ?_) (fun g16 => ?_)
  · refine W.wants rfl rfl rfl rfl ?_
    refine W.move rfl rfl ?_
    refine W.wants rfl rfl rfl rfl ?_
    refine W.leqI rfl rfl rfl ?_
    refine W.wants rfl rfl rfl rfl ?_
    refine W.pickT rfl rfl rfl ?_
    refine W.pickF rfl rfl rfl ?_
    refine W.nil ?_
    refine At.thenCode ?_
    first | refine C.condD rfl (fun c20 => ?_) (fun c20 => ?_) | refine C.cond rfl (fun c20 => ?_) (fun c20 => ?_)
    · refine C.seq ?_
      refine C.region ?_
      refine W.move rfl rfl ?_
      refine W.assign rfl rfl ?_
      refine W.nil ?_
      refine At.thenCode ?_
      refine C.ret ?_
      refine At.thenRet ?_
      refine At.ret1 Try.results7 rfl ?_
      first | exact ⟨rfl, Ext.below hX10a⟩ | exact ⟨rfl, Ext.below ((hX33.ext hX38).ext hX47)⟩
    · refine C.skip ?_
      refine At.thenCode ?_
      refine C.seq ?_
      refine C.region ?_
      refine W.move rfl rfl ?_
      refine W.loadA rfl (hB10.cells (o := 0)) Try.underlying23 rfl (by rw [List.drop_zero, List.length_map, hs]; kernel_rfl) rfl ?_
      refine W.call Try.call14 rfl (Beacon.New_ok seed [109] _ hs) rfl ?_
      rintro v25 w25 ⟨⟨g1, rfl, hg1, hS1⟩, hX25⟩
      refine W.call Try.call25 rfl (Perm.Of_ok g1 seed [109] n _ hs (by decide) hS1 hb) rfl ?_
      rw [← hf]
      rintro v26 w26 ⟨⟨a26, c26, rfl, hS26, hb26⟩, hc26⟩
      have hs10 := hX10a.size
      have hlt := hB10.lt
      have hX26 : Ext w w26 := (hX10a.ext hX25).news hc26 (fun k hk => Or.inr (by omega))
      have hB26 : Bk w26 g3 (seed.map byteV) := (hB10.ext hX25).chg hc26 (by omega)
      refine W.move rfl rfl ?_
      refine W.extract rfl rfl rfl ?_
      refine W.extract rfl rfl rfl ?_
      refine W.assign rfl rfl ?_
      refine W.assign rfl rfl ?_
      refine W.nil ?_
      refine At.thenCode ?_
      refine C.seq ?_
      refine C.region ?_
      refine W.move rfl rfl ?_
      refine W.loadA rfl (hB26.cells (o := 0)) Try.underlying23 rfl (by rw [List.drop_zero, List.length_map, hs]; kernel_rfl) rfl ?_
      refine W.call Try.call15 rfl (Beacon.RNew_ok seed [109] _ hs) rfl ?_
      rintro v32 w32 ⟨⟨g2, rfl, hg2, hS2⟩, hX32⟩
      have hS26 := hS26.ext hX32
      refine W.call Try.call26 rfl (Perm.Order_ok g2 seed [109] n _ hs (by decide) hS2 hb) rfl ?_
      rw [← hf]
      rintro v33 w33 ⟨⟨a33, c33, rfl, hS33, hb33⟩, hc33⟩
      have hs26 := hX26.size
      have hX33 : Ext w w33 := (hX26.ext hX32).news hc33 (fun k hk => Or.inr (by omega))
      have hS26 : Zs w33 a26 c26 (ofL f n) := hS26.chg hc33 (fun ad e hne hk => by
        have := Sl.blk (by assumption : Sl w26 a26 (ofL f n).length c26 1 ((ofL f n).map (.int .i64))) e hne
        omega)
      refine W.move rfl rfl ?_
      refine W.extract rfl rfl rfl ?_
      refine W.extract rfl rfl rfl ?_
      refine W.assign rfl rfl ?_
      refine W.assign rfl rfl ?_
      refine W.nil ?_
      refine At.thenCode ?_
      refine C.seq ?_
      refine C.region ?_
      refine W.move rfl rfl ?_
      refine W.move rfl rfl ?_
      refine W.call Try.call27 rfl (Ints.SameInts_ok a26 c26 (ofL f n) a33 c33 (ofL f n) _ hS26 hS33 (by omega)) rfl ?_
      rintro v38 w38 ⟨rfl, hX38⟩
      refine W.eqv (v' := .bool true) (by simp) ?_
      refine W.move rfl rfl ?_
      refine W.wants rfl rfl rfl rfl ?_
      refine W.move rfl rfl ?_
      refine W.wants rfl rfl rfl rfl ?_
      refine W.call Try.call28 rfl (num_ok _ _) rfl ?_
      rintro v41 w41 ⟨rfl, rfl⟩
      refine W.wants rfl rfl rfl rfl ?_
      refine W.move rfl rfl ?_
      refine W.wants rfl rfl rfl rfl ?_
      refine W.eqlI rfl rfl rfl ?_
      refine W.eqv (v' := .bool true) (by simp) ?_
      refine W.pickT rfl rfl rfl ?_
      refine W.move rfl rfl ?_
      refine W.wants rfl rfl rfl rfl ?_
      refine W.move rfl rfl ?_
      refine W.wants rfl rfl rfl rfl ?_
      refine W.call Try.call29 rfl (Perm.Right_ok a26 c26 (ofL f n) _ (hS26.ext hX38) (by omega)) rfl ?_
      rintro v47 w47 ⟨rfl, hX47⟩
      rw [decide_eq_true (ofL_right f n)]
      refine W.pickT rfl rfl rfl ?_
      refine W.assign rfl rfl ?_
      refine W.nil ?_
      refine At.thenCode ?_
      refine C.ret ?_
      refine At.ret1 Try.results7 rfl ?_
      first | exact ⟨rfl, Ext.below hX10a⟩ | exact ⟨rfl, Ext.below ((hX33.ext hX38).ext hX47)⟩
  · refine W.skips rfl rfl rfl rfl rfl rfl ?_
    refine W.skips rfl rfl rfl rfl rfl rfl ?_
    refine W.wants rfl rfl rfl rfl ?_
    refine W.pickF rfl rfl rfl ?_
    refine W.pickF rfl rfl rfl ?_
    refine W.nil ?_
    refine At.thenCode ?_
    refine C.condF rfl ?_
    refine C.skip ?_
    refine At.thenCode ?_
    refine C.seq ?_
    refine C.region ?_
    refine W.move rfl rfl ?_
    refine W.loadA rfl (hB10.cells (o := 0)) Try.underlying23 rfl (by rw [List.drop_zero, List.length_map, hs]; kernel_rfl) rfl ?_
    refine W.call Try.call14 rfl (Beacon.New_ok seed [109] _ hs) rfl ?_
    rintro v25 w25 ⟨⟨g1, rfl, hg1, hS1⟩, hX25⟩
    refine W.call Try.call25 rfl (Perm.Of_ok g1 seed [109] n _ hs (by decide) hS1 hb) rfl ?_
    rw [← hf]
    rintro v26 w26 ⟨⟨a26, c26, rfl, hS26, hb26⟩, hc26⟩
    have hs10 := hX10a.size
    have hlt := hB10.lt
    have hX26 : Ext w w26 := (hX10a.ext hX25).news hc26 (fun k hk => Or.inr (by omega))
    have hB26 : Bk w26 g3 (seed.map byteV) := (hB10.ext hX25).chg hc26 (by omega)
    refine W.move rfl rfl ?_
    refine W.extract rfl rfl rfl ?_
    refine W.extract rfl rfl rfl ?_
    refine W.assign rfl rfl ?_
    refine W.assign rfl rfl ?_
    refine W.nil ?_
    refine At.thenCode ?_
    refine C.seq ?_
    refine C.region ?_
    refine W.move rfl rfl ?_
    refine W.loadA rfl (hB26.cells (o := 0)) Try.underlying23 rfl (by rw [List.drop_zero, List.length_map, hs]; kernel_rfl) rfl ?_
    refine W.call Try.call15 rfl (Beacon.RNew_ok seed [109] _ hs) rfl ?_
    rintro v32 w32 ⟨⟨g2, rfl, hg2, hS2⟩, hX32⟩
    have hS26 := hS26.ext hX32
    refine W.call Try.call26 rfl (Perm.Order_ok g2 seed [109] n _ hs (by decide) hS2 hb) rfl ?_
    rw [← hf]
    rintro v33 w33 ⟨⟨a33, c33, rfl, hS33, hb33⟩, hc33⟩
    have hs26 := hX26.size
    have hX33 : Ext w w33 := (hX26.ext hX32).news hc33 (fun k hk => Or.inr (by omega))
    have hS26 : Zs w33 a26 c26 (ofL f n) := hS26.chg hc33 (fun ad e hne hk => by
      have := Sl.blk (by assumption : Sl w26 a26 (ofL f n).length c26 1 ((ofL f n).map (.int .i64))) e hne
      omega)
    refine W.move rfl rfl ?_
    refine W.extract rfl rfl rfl ?_
    refine W.extract rfl rfl rfl ?_
    refine W.assign rfl rfl ?_
    refine W.assign rfl rfl ?_
    refine W.nil ?_
    refine At.thenCode ?_
    refine C.seq ?_
    refine C.region ?_
    refine W.move rfl rfl ?_
    refine W.move rfl rfl ?_
    refine W.call Try.call27 rfl (Ints.SameInts_ok a26 c26 (ofL f n) a33 c33 (ofL f n) _ hS26 hS33 (by omega)) rfl ?_
    rintro v38 w38 ⟨rfl, hX38⟩
    refine W.eqv (v' := .bool true) (by simp) ?_
    refine W.move rfl rfl ?_
    refine W.wants rfl rfl rfl rfl ?_
    refine W.move rfl rfl ?_
    refine W.wants rfl rfl rfl rfl ?_
    refine W.call Try.call28 rfl (num_ok _ _) rfl ?_
    rintro v41 w41 ⟨rfl, rfl⟩
    refine W.wants rfl rfl rfl rfl ?_
    refine W.move rfl rfl ?_
    refine W.wants rfl rfl rfl rfl ?_
    refine W.eqlI rfl rfl rfl ?_
    refine W.eqv (v' := .bool true) (by simp) ?_
    refine W.pickT rfl rfl rfl ?_
    refine W.move rfl rfl ?_
    refine W.wants rfl rfl rfl rfl ?_
    refine W.move rfl rfl ?_
    refine W.wants rfl rfl rfl rfl ?_
    refine W.call Try.call29 rfl (Perm.Right_ok a26 c26 (ofL f n) _ (hS26.ext hX38) (by omega)) rfl ?_
    rintro v47 w47 ⟨rfl, hX47⟩
    rw [decide_eq_true (ofL_right f n)]
    refine W.pickT rfl rfl rfl ?_
    refine W.assign rfl rfl ?_
    refine W.nil ?_
    refine At.thenCode ?_
    refine C.ret ?_
    refine At.ret1 Try.results7 rfl ?_
    first | exact ⟨rfl, Ext.below hX10a⟩ | exact ⟨rfl, Ext.below ((hX33.ext hX38).ext hX47)⟩
theorem PermuteLimits_walk (n : Int) (w : World) (hb : -9223372036854775808 ≤ n ∧ n ≤ 9223372036854775807) :
    Ct Try.prog 10 #[.int .i64 n] w (LawOk w) := by
  refine Ct.enter [(0, .int .i64 n)] Try.func10 rfl rfl rfl rfl ?_
  obtain ⟨seed, hseed⟩ : ∃ seed : List UInt8, seed = List.replicate 32 0 := ⟨_, rfl⟩
  have hs : seed.length = 32 := by rw [hseed]; rfl
  obtain ⟨f, hf⟩ : ∃ f, f = wordV seed [109] := ⟨_, rfl⟩
  have hle := ofL_le f n
  refine C.seq ?_
  refine C.region ?_
  refine W.assign rfl rfl ?_
  refine W.nil ?_
  refine At.thenCode ?_
  refine C.seq ?_
  refine C.region ?_
  refine W.call Try.call24 rfl (alive_ok _) rfl ?_
  rintro v6 w6 ⟨rfl, hX6⟩
  refine W.assign rfl rfl ?_
  refine W.nil ?_
  refine At.thenCode ?_
  refine C.seq ?_
  refine C.seq ?_
  refine C.region ?_
  refine W.move rfl rfl ?_
  first | refine W.notD rfl rfl ?_ | refine W.notB rfl rfl ?_
  refine W.move rfl rfl ?_
  refine W.wants rfl rfl rfl rfl ?_
  refine W.move rfl rfl ?_
  refine W.wants rfl rfl rfl rfl ?_
  refine W.geqI rfl rfl rfl ?_
  refine W.wants rfl rfl rfl rfl ?_
  refine W.move rfl rfl ?_
  first | refine W.splitD (fun g12 => ?_) (fun g12 => ?_) | refine W.splitB (fun g12 => ?_) (fun g12 => ?_)
  · refine W.wants rfl rfl rfl rfl ?_
    refine W.move rfl rfl ?_
    refine W.wants rfl rfl rfl rfl ?_
    refine W.lssI rfl rfl rfl ?_
    refine W.wants rfl rfl rfl rfl ?_
    refine W.pickT rfl rfl rfl ?_
    refine W.pickF rfl rfl rfl ?_
    refine W.nil ?_
    refine At.thenCode ?_
    first | refine C.condD rfl (fun c16 => ?_) (fun c16 => ?_) | refine C.cond rfl (fun c16 => ?_) (fun c16 => ?_)
    · refine C.seq ?_
      refine C.region ?_
      refine W.move rfl rfl ?_
      refine W.assign rfl rfl ?_
      refine W.nil ?_
      refine At.thenCode ?_
      refine C.ret ?_
      refine At.thenRet ?_
      refine At.ret1 Try.results10 rfl ?_
      first | exact ⟨rfl, Ext.below hX6⟩ | exact ⟨rfl, Ext.below hX22⟩ | exact ⟨rfl, Ext.below (hX22.ext hX54)⟩
    · refine C.skip ?_
      refine At.thenCode ?_
      refine C.seq ?_
      refine C.region ?_
      refine W.move rfl rfl ?_
      refine W.buildAF (List.replicate 32 (byteV 0)) (List.replicate 32 (byteV 0)) X8 Try.underlying23 (by kernel_rfl) rfl rfl rfl ?_
      refine W.eqv (v' := keyV seed) (by rw [hseed]; rfl) ?_
      refine W.call Try.call14 rfl (Beacon.New_ok seed [109] _ hs) rfl ?_
      rintro v21 w21 ⟨⟨g1, rfl, hg1, hS1⟩, hX21⟩
      refine W.call Try.call25 rfl (Perm.Of_ok g1 seed [109] n _ hs (by decide) hS1 hb) rfl ?_
      rw [← hf]
      rintro v22 w22 ⟨⟨a22, c22, rfl, hS22, hb22⟩, hc22⟩
      have hs6 := hX6.size
      have hX22 : Ext w w22 := (hX6.ext hX21).news hc22 (fun k hk => Or.inr (by omega))
      refine W.move rfl rfl ?_
      refine W.extract rfl rfl rfl ?_
      refine W.extract rfl rfl rfl ?_
      refine W.assign rfl rfl ?_
      refine W.assign rfl rfl ?_
      refine W.nil ?_
      refine At.thenCode ?_
      refine C.seq ?_
      refine C.seq ?_
      refine C.region ?_
      refine W.move rfl rfl ?_
      refine W.lssI rfl rfl rfl ?_
      refine W.move rfl rfl ?_
      first | refine W.splitD (fun g27 => ?_) (fun g27 => ?_) | refine W.splitB (fun g27 => ?_) (fun g27 => ?_)
      · refine W.skips rfl rfl rfl rfl rfl rfl ?_
        refine W.skips rfl rfl rfl rfl rfl rfl ?_
        refine W.pickT rfl rfl rfl ?_
        refine W.nil ?_
        refine At.thenCode ?_
        refine C.condT rfl ?_
        refine C.seq ?_
        refine C.region ?_
        refine W.move rfl rfl ?_
        refine W.call Try.call28 rfl (num_ok _ _) rfl ?_
        rintro v32 w32 ⟨rfl, rfl⟩
        refine W.eqlI rfl rfl rfl ?_
        refine W.eqv (bT ((ofE_bad (f := f) (n := n) (by omega)).1)) ?_
        refine W.move rfl rfl ?_
        refine W.wants rfl rfl rfl rfl ?_
        refine W.move rfl rfl ?_
        refine W.wants rfl rfl rfl rfl ?_
        refine W.lenS rfl Try.underlying48 rfl ?_
        refine W.wants rfl rfl rfl rfl ?_
        refine W.eqlI rfl rfl rfl ?_
        refine W.eqv (bT (by rw [(ofE_bad (f := f) (n := n) (by omega)).2]; rfl)) ?_
        refine W.pickT rfl rfl rfl ?_
        refine W.assign rfl rfl ?_
        refine W.nil ?_
        refine At.thenCode ?_
        refine C.ret ?_
        refine At.thenRet ?_
        refine At.ret1 Try.results10 rfl ?_
        first | exact ⟨rfl, Ext.below hX6⟩ | exact ⟨rfl, Ext.below hX22⟩ | exact ⟨rfl, Ext.below (hX22.ext hX54)⟩
      · refine W.wants rfl rfl rfl rfl ?_
        refine W.move rfl rfl ?_
        refine W.wants rfl rfl rfl rfl ?_
        refine W.gtrI rfl rfl rfl ?_
        refine W.pickF rfl rfl rfl ?_
        refine W.nil ?_
        refine At.thenCode ?_
        first | refine C.condD rfl (fun c30 => ?_) (fun c30 => ?_) | refine C.cond rfl (fun c30 => ?_) (fun c30 => ?_)
        · refine C.seq ?_
          refine C.region ?_
          refine W.move rfl rfl ?_
          refine W.call Try.call28 rfl (num_ok _ _) rfl ?_
          rintro v32 w32 ⟨rfl, rfl⟩
          refine W.eqlI rfl rfl rfl ?_
          refine W.eqv (bT ((ofE_bad (f := f) (n := n) (by omega)).1)) ?_
          refine W.move rfl rfl ?_
          refine W.wants rfl rfl rfl rfl ?_
          refine W.move rfl rfl ?_
          refine W.wants rfl rfl rfl rfl ?_
          refine W.lenS rfl Try.underlying48 rfl ?_
          refine W.wants rfl rfl rfl rfl ?_
          refine W.eqlI rfl rfl rfl ?_
          refine W.eqv (bT (by rw [(ofE_bad (f := f) (n := n) (by omega)).2]; rfl)) ?_
          refine W.pickT rfl rfl rfl ?_
          refine W.assign rfl rfl ?_
          refine W.nil ?_
          refine At.thenCode ?_
          refine C.ret ?_
          refine At.thenRet ?_
          refine At.ret1 Try.results10 rfl ?_
          first | exact ⟨rfl, Ext.below hX6⟩ | exact ⟨rfl, Ext.below hX22⟩ | exact ⟨rfl, Ext.below (hX22.ext hX54)⟩
        · refine C.skip ?_
          refine At.thenCode ?_
          refine C.seq ?_
          refine C.region ?_
          refine W.move rfl rfl ?_
          refine W.call Try.call28 rfl (num_ok _ _) rfl ?_
          rintro v40 w40 ⟨rfl, rfl⟩
          refine W.eqlI rfl rfl rfl ?_
          refine W.move rfl rfl ?_
          first | refine W.splitD (fun g42 => ?_) (fun g42 => ?_) | refine W.splitB (fun g42 => ?_) (fun g42 => ?_)
          · refine W.skips rfl rfl rfl rfl rfl rfl ?_
            refine W.skips rfl rfl rfl rfl rfl rfl ?_
            refine W.skips rfl rfl rfl rfl rfl rfl ?_
            refine W.skips rfl rfl rfl rfl rfl rfl ?_
            refine W.skipsU rfl rfl rfl rfl rfl rfl ?_
            refine W.skipsU rfl rfl rfl rfl rfl rfl ?_
            refine W.skipsU rfl rfl rfl rfl rfl rfl ?_
            refine W.skipsU rfl rfl rfl rfl rfl rfl ?_
            refine W.skips rfl rfl rfl rfl rfl rfl ?_
            refine W.skips rfl rfl rfl rfl rfl rfl ?_
            refine W.skipsU rfl rfl rfl rfl rfl rfl ?_
            refine W.skipsU rfl rfl rfl rfl rfl rfl ?_
            refine W.skips rfl rfl rfl rfl rfl rfl ?_
            refine W.pickT rfl rfl rfl ?_
            refine W.assign rfl rfl ?_
            refine W.nil ?_
            refine At.thenCode ?_
            refine C.ret ?_
            refine At.ret1 Try.results10 rfl ?_
            first | exact ⟨rfl, Ext.below hX6⟩ | exact ⟨rfl, Ext.below hX22⟩ | exact ⟨rfl, Ext.below (hX22.ext hX54)⟩
          · refine W.wants rfl rfl rfl rfl ?_
            refine W.move rfl rfl ?_
            refine W.wants rfl rfl rfl rfl ?_
            refine W.call Try.call28 rfl (num_ok _ _) rfl ?_
            rintro v44 w44 ⟨rfl, rfl⟩
            refine W.wants rfl rfl rfl rfl ?_
            refine W.eqlI rfl rfl rfl ?_
            refine W.eqv (bT (by rcases ofE_cases (f := f) (n := n) (by omega) with h | h <;> omega)) ?_
            refine W.wants rfl rfl rfl rfl ?_
            refine W.move rfl rfl ?_
            refine W.wants rfl rfl rfl rfl ?_
            refine W.move rfl rfl ?_
            refine W.wants rfl rfl rfl rfl ?_
            refine W.lenS rfl Try.underlying48 rfl ?_
            refine W.wants rfl rfl rfl rfl ?_
            refine W.move rfl rfl ?_
            refine W.wants rfl rfl rfl rfl ?_
            refine W.eqlI rfl rfl rfl ?_
            refine W.eqv (bT (by rw [ofL_length (by rcases ofE_cases (f := f) (n := n) (by omega) with h | h <;> omega)]; omega)) ?_
            refine W.wants rfl rfl rfl rfl ?_
            refine W.pickT rfl rfl rfl ?_
            refine W.wants rfl rfl rfl rfl ?_
            refine W.move rfl rfl ?_
            refine W.wants rfl rfl rfl rfl ?_
            refine W.move rfl rfl ?_
            refine W.wants rfl rfl rfl rfl ?_
            refine W.call Try.call29 rfl (Perm.Right_ok a22 c22 (ofL f n) _ hS22 (by omega)) rfl ?_
            rintro v54 w54 ⟨rfl, hX54⟩
            rw [decide_eq_true (ofL_right f n)]
            refine W.wants rfl rfl rfl rfl ?_
            refine W.pickT rfl rfl rfl ?_
            refine W.pickF rfl rfl rfl ?_
            refine W.assign rfl rfl ?_
            refine W.nil ?_
            refine At.thenCode ?_
            refine C.ret ?_
            refine At.ret1 Try.results10 rfl ?_
            first | exact ⟨rfl, Ext.below hX6⟩ | exact ⟨rfl, Ext.below hX22⟩ | exact ⟨rfl, Ext.below (hX22.ext hX54)⟩
  · refine W.skips rfl rfl rfl rfl rfl rfl ?_
    refine W.skips rfl rfl rfl rfl rfl rfl ?_
    refine W.wants rfl rfl rfl rfl ?_
    refine W.pickF rfl rfl rfl ?_
    refine W.pickF rfl rfl rfl ?_
    refine W.nil ?_
    refine At.thenCode ?_
    refine C.condF rfl ?_
    refine C.skip ?_
    refine At.thenCode ?_
    refine C.seq ?_
    refine C.region ?_
    refine W.move rfl rfl ?_
    refine W.buildAF (List.replicate 32 (byteV 0)) (List.replicate 32 (byteV 0)) X8 Try.underlying23 (by kernel_rfl) rfl rfl rfl ?_
    refine W.eqv (v' := keyV seed) (by rw [hseed]; rfl) ?_
    refine W.call Try.call14 rfl (Beacon.New_ok seed [109] _ hs) rfl ?_
    rintro v21 w21 ⟨⟨g1, rfl, hg1, hS1⟩, hX21⟩
    refine W.call Try.call25 rfl (Perm.Of_ok g1 seed [109] n _ hs (by decide) hS1 hb) rfl ?_
    rw [← hf]
    rintro v22 w22 ⟨⟨a22, c22, rfl, hS22, hb22⟩, hc22⟩
    have hs6 := hX6.size
    have hX22 : Ext w w22 := (hX6.ext hX21).news hc22 (fun k hk => Or.inr (by omega))
    refine W.move rfl rfl ?_
    refine W.extract rfl rfl rfl ?_
    refine W.extract rfl rfl rfl ?_
    refine W.assign rfl rfl ?_
    refine W.assign rfl rfl ?_
    refine W.nil ?_
    refine At.thenCode ?_
    refine C.seq ?_
    refine C.seq ?_
    refine C.region ?_
    refine W.move rfl rfl ?_
    refine W.lssI rfl rfl rfl ?_
    refine W.move rfl rfl ?_
    first | refine W.splitD (fun g27 => ?_) (fun g27 => ?_) | refine W.splitB (fun g27 => ?_) (fun g27 => ?_)
    · refine W.skips rfl rfl rfl rfl rfl rfl ?_
      refine W.skips rfl rfl rfl rfl rfl rfl ?_
      refine W.pickT rfl rfl rfl ?_
      refine W.nil ?_
      refine At.thenCode ?_
      refine C.condT rfl ?_
      refine C.seq ?_
      refine C.region ?_
      refine W.move rfl rfl ?_
      refine W.call Try.call28 rfl (num_ok _ _) rfl ?_
      rintro v32 w32 ⟨rfl, rfl⟩
      refine W.eqlI rfl rfl rfl ?_
      refine W.eqv (bT ((ofE_bad (f := f) (n := n) (by omega)).1)) ?_
      refine W.move rfl rfl ?_
      refine W.wants rfl rfl rfl rfl ?_
      refine W.move rfl rfl ?_
      refine W.wants rfl rfl rfl rfl ?_
      refine W.lenS rfl Try.underlying48 rfl ?_
      refine W.wants rfl rfl rfl rfl ?_
      refine W.eqlI rfl rfl rfl ?_
      refine W.eqv (bT (by rw [(ofE_bad (f := f) (n := n) (by omega)).2]; rfl)) ?_
      refine W.pickT rfl rfl rfl ?_
      refine W.assign rfl rfl ?_
      refine W.nil ?_
      refine At.thenCode ?_
      refine C.ret ?_
      refine At.thenRet ?_
      refine At.ret1 Try.results10 rfl ?_
      first | exact ⟨rfl, Ext.below hX6⟩ | exact ⟨rfl, Ext.below hX22⟩ | exact ⟨rfl, Ext.below (hX22.ext hX54)⟩
    · refine W.wants rfl rfl rfl rfl ?_
      refine W.move rfl rfl ?_
      refine W.wants rfl rfl rfl rfl ?_
      refine W.gtrI rfl rfl rfl ?_
      refine W.pickF rfl rfl rfl ?_
      refine W.nil ?_
      refine At.thenCode ?_
      first | refine C.condD rfl (fun c30 => ?_) (fun c30 => ?_) | refine C.cond rfl (fun c30 => ?_) (fun c30 => ?_)
      · refine C.seq ?_
        refine C.region ?_
        refine W.move rfl rfl ?_
        refine W.call Try.call28 rfl (num_ok _ _) rfl ?_
        rintro v32 w32 ⟨rfl, rfl⟩
        refine W.eqlI rfl rfl rfl ?_
        refine W.eqv (bT ((ofE_bad (f := f) (n := n) (by omega)).1)) ?_
        refine W.move rfl rfl ?_
        refine W.wants rfl rfl rfl rfl ?_
        refine W.move rfl rfl ?_
        refine W.wants rfl rfl rfl rfl ?_
        refine W.lenS rfl Try.underlying48 rfl ?_
        refine W.wants rfl rfl rfl rfl ?_
        refine W.eqlI rfl rfl rfl ?_
        refine W.eqv (bT (by rw [(ofE_bad (f := f) (n := n) (by omega)).2]; rfl)) ?_
        refine W.pickT rfl rfl rfl ?_
        refine W.assign rfl rfl ?_
        refine W.nil ?_
        refine At.thenCode ?_
        refine C.ret ?_
        refine At.thenRet ?_
        refine At.ret1 Try.results10 rfl ?_
        first | exact ⟨rfl, Ext.below hX6⟩ | exact ⟨rfl, Ext.below hX22⟩ | exact ⟨rfl, Ext.below (hX22.ext hX54)⟩
      · refine C.skip ?_
        refine At.thenCode ?_
        refine C.seq ?_
        refine C.region ?_
        refine W.move rfl rfl ?_
        refine W.call Try.call28 rfl (num_ok _ _) rfl ?_
        rintro v40 w40 ⟨rfl, rfl⟩
        refine W.eqlI rfl rfl rfl ?_
        refine W.move rfl rfl ?_
        first | refine W.splitD (fun g42 => ?_) (fun g42 => ?_) | refine W.splitB (fun g42 => ?_) (fun g42 => ?_)
        · refine W.skips rfl rfl rfl rfl rfl rfl ?_
          refine W.skips rfl rfl rfl rfl rfl rfl ?_
          refine W.skips rfl rfl rfl rfl rfl rfl ?_
          refine W.skips rfl rfl rfl rfl rfl rfl ?_
          refine W.skipsU rfl rfl rfl rfl rfl rfl ?_
          refine W.skipsU rfl rfl rfl rfl rfl rfl ?_
          refine W.skipsU rfl rfl rfl rfl rfl rfl ?_
          refine W.skipsU rfl rfl rfl rfl rfl rfl ?_
          refine W.skips rfl rfl rfl rfl rfl rfl ?_
          refine W.skips rfl rfl rfl rfl rfl rfl ?_
          refine W.skipsU rfl rfl rfl rfl rfl rfl ?_
          refine W.skipsU rfl rfl rfl rfl rfl rfl ?_
          refine W.skips rfl rfl rfl rfl rfl rfl ?_
          refine W.pickT rfl rfl rfl ?_
          refine W.assign rfl rfl ?_
          refine W.nil ?_
          refine At.thenCode ?_
          refine C.ret ?_
          refine At.ret1 Try.results10 rfl ?_
          first | exact ⟨rfl, Ext.below hX6⟩ | exact ⟨rfl, Ext.below hX22⟩ | exact ⟨rfl, Ext.below (hX22.ext hX54)⟩
        · refine W.wants rfl rfl rfl rfl ?_
          refine W.move rfl rfl ?_
          refine W.wants rfl rfl rfl rfl ?_
          refine W.call Try.call28 rfl (num_ok _ _) rfl ?_
          rintro v44 w44 ⟨rfl, rfl⟩
          refine W.wants rfl rfl rfl rfl ?_
          refine W.eqlI rfl rfl rfl ?_
          refine W.eqv (bT (by rcases ofE_cases (f := f) (n := n) (by omega) with h | h <;> omega)) ?_
          refine W.wants rfl rfl rfl rfl ?_
          refine W.move rfl rfl ?_
          refine W.wants rfl rfl rfl rfl ?_
          refine W.move rfl rfl ?_
          refine W.wants rfl rfl rfl rfl ?_
          refine W.lenS rfl Try.underlying48 rfl ?_
          refine W.wants rfl rfl rfl rfl ?_
          refine W.move rfl rfl ?_
          refine W.wants rfl rfl rfl rfl ?_
          refine W.eqlI rfl rfl rfl ?_
          refine W.eqv (bT (by rw [ofL_length (by rcases ofE_cases (f := f) (n := n) (by omega) with h | h <;> omega)]; omega)) ?_
          refine W.wants rfl rfl rfl rfl ?_
          refine W.pickT rfl rfl rfl ?_
          refine W.wants rfl rfl rfl rfl ?_
          refine W.move rfl rfl ?_
          refine W.wants rfl rfl rfl rfl ?_
          refine W.move rfl rfl ?_
          refine W.wants rfl rfl rfl rfl ?_
          refine W.call Try.call29 rfl (Perm.Right_ok a22 c22 (ofL f n) _ hS22 (by omega)) rfl ?_
          rintro v54 w54 ⟨rfl, hX54⟩
          rw [decide_eq_true (ofL_right f n)]
          refine W.wants rfl rfl rfl rfl ?_
          refine W.pickT rfl rfl rfl ?_
          refine W.pickF rfl rfl rfl ?_
          refine W.assign rfl rfl ?_
          refine W.nil ?_
          refine At.thenCode ?_
          refine C.ret ?_
          refine At.ret1 Try.results10 rfl ?_
          first | exact ⟨rfl, Ext.below hX6⟩ | exact ⟨rfl, Ext.below hX22⟩ | exact ⟨rfl, Ext.below (hX22.ext hX54)⟩
theorem PermuteBack_walk (n : Int) (seed : List UInt8) (w : World) (hb : -9223372036854775808 ≤ n ∧ n ≤ 9223372036854775807) (hs : seed.length = 32) :
    Ct Try.prog 9 #[.int .i64 n, keyV seed] w (LawOk w) := by
  refine Ct.enter [(0, .int .i64 n), (1, keyV seed)] Try.func9 rfl rfl rfl rfl ?_
  obtain ⟨f, hf⟩ : ∃ f, f = wordV seed [109] := ⟨_, rfl⟩
  have hle := ofL_le f n
  have hRt := ofL_right f n
  have hlen := ofL_length (f := f) (n := n)
  obtain ⟨L, hL⟩ : ∃ L, L = ofL f n := ⟨_, rfl⟩
  obtain ⟨E, hE⟩ : ∃ E, E = ofE f n := ⟨_, rfl⟩
  have hR2 := invL_right (L := L) (by rw [hL]; exact hRt)
  have hbk := invL_back (L := L) (by rw [hL]; exact hRt)
  have hil := invL_length L
  have hi1 : invR L = invL L := by unfold invR; rw [if_pos (by rw [hL]; exact hRt)]
  have hi2 : invR (invL L) = L := by unfold invR; rw [if_pos hR2, hbk]
  rw [← hL] at hle hRt hlen
  rw [← hE] at hlen
  refine C.seq ?_
  refine C.region ?_
  refine W.box (seed.map byteV) rfl rfl rfl ?_
  intro g3 w3 hg3 hX3 hB3
  refine W.assign rfl rfl ?_
  refine W.nil ?_
  refine At.thenCode ?_
  refine C.seq ?_
  refine C.region ?_
  refine W.call Try.call24 rfl (alive_ok _) rfl ?_
  rintro v13 w13 ⟨rfl, hX13⟩
  have hX13a := hX3.ext hX13
  have hB13 := hB3.ext hX13
  refine W.assign rfl rfl ?_
  refine W.nil ?_
  refine At.thenCode ?_
  refine C.seq ?_
  refine C.seq ?_
  refine C.region ?_
  refine W.move rfl rfl ?_
  first | refine W.notD rfl rfl ?_ | refine W.notB rfl rfl ?_
  refine W.move rfl rfl ?_
  refine W.wants rfl rfl rfl rfl ?_
  refine W.move rfl rfl ?_
  refine W.wants rfl rfl rfl rfl ?_
  refine W.lssI rfl rfl rfl ?_
  refine W.pickF rfl rfl rfl ?_
  refine W.move rfl rfl ?_
  first | refine W.splitD (fun g20 => ?_) (fun g20 => ?_) | refine W.splitB (fun g20 => ?_) (fun g20 => ?_)
  · refine W.skips rfl rfl rfl rfl rfl rfl ?_
    refine W.skips rfl rfl rfl rfl rfl rfl ?_
    refine W.pickT rfl rfl rfl ?_
    refine W.nil ?_
    refine At.thenCode ?_
    refine C.condT rfl ?_
    refine C.seq ?_
    refine C.region ?_
    refine W.move rfl rfl ?_
    refine W.assign rfl rfl ?_
    refine W.nil ?_
    refine At.thenCode ?_
    refine C.ret ?_
    refine At.thenRet ?_
    refine At.ret1 Try.results9 rfl ?_
    first | exact ⟨rfl, Ext.below hX13a⟩ | exact ⟨rfl, Ext.below hX39a⟩ | exact ⟨rfl, Ext.below hX65a⟩
  · refine W.wants rfl rfl rfl rfl ?_
    refine W.move rfl rfl ?_
    refine W.wants rfl rfl rfl rfl ?_
    refine W.gtrI rfl rfl rfl ?_
    refine W.pickF rfl rfl rfl ?_
    refine W.nil ?_
    refine At.thenCode ?_
    first | refine C.condD rfl (fun c23 => ?_) (fun c23 => ?_) | refine C.cond rfl (fun c23 => ?_) (fun c23 => ?_)
    · refine C.seq ?_
      refine C.region ?_
      refine W.move rfl rfl ?_
      refine W.assign rfl rfl ?_
      refine W.nil ?_
      refine At.thenCode ?_
      refine C.ret ?_
      refine At.thenRet ?_
      refine At.ret1 Try.results9 rfl ?_
      first | exact ⟨rfl, Ext.below hX13a⟩ | exact ⟨rfl, Ext.below hX39a⟩ | exact ⟨rfl, Ext.below hX65a⟩
    · refine C.skip ?_
      refine At.thenCode ?_
      refine C.seq ?_
      refine C.region ?_
      refine W.move rfl rfl ?_
      have hcs := ofE_cases (f := f) (n := n) (by omega)
      rw [← hE] at hcs
      refine W.loadA rfl (hB13.cells (o := 0)) Try.underlying23 rfl (by rw [List.drop_zero, List.length_map, hs]; kernel_rfl) rfl ?_
      refine W.call Try.call14 rfl (Beacon.New_ok seed [109] _ hs) rfl ?_
      rintro v28 w28 ⟨⟨g1, rfl, hg1, hS1⟩, hX28⟩
      refine W.call Try.call25 rfl (Perm.Of_ok g1 seed [109] n _ hs (by decide) hS1 hb) rfl ?_
      rw [← hf]
      rintro v29 w29 ⟨⟨a29, c29, rfl, hS29, hb29⟩, hc29⟩
      rw [← hL, ← hE]
      rw [← hL] at hS29
      have hs13 := hX13a.size
      have hX29 : Ext w w29 := (hX13a.ext hX28).news hc29 (fun k hk => Or.inr (by omega))
      refine W.move rfl rfl ?_
      refine W.extract rfl rfl rfl ?_
      refine W.extract rfl rfl rfl ?_
      refine W.assign rfl rfl ?_
      refine W.assign rfl rfl ?_
      refine W.nil ?_
      refine At.thenCode ?_
      refine C.seq ?_
      refine C.region ?_
      refine W.move rfl rfl ?_
      refine W.call Try.call30 rfl (Perm.Inverse_ok a29 c29 L _ hS29 (by omega)) rfl ?_
      rintro v34 w34 ⟨⟨a34, c34, rfl, hS34, _⟩, hX34⟩
      rw [hi1, decide_eq_true hRt]
      rw [hi1] at hS34
      refine W.move rfl rfl ?_
      refine W.extract rfl rfl rfl ?_
      refine W.extract rfl rfl rfl ?_
      refine W.eqv (v' := .bool true) (rfl) ?_
      refine W.assign rfl rfl ?_
      refine W.assign rfl rfl ?_
      refine W.nil ?_
      refine At.thenCode ?_
      refine C.seq ?_
      refine C.region ?_
      refine W.move rfl rfl ?_
      refine W.call Try.call30 rfl (Perm.Inverse_ok a34 c34 (invL L) _ hS34 (by omega)) rfl ?_
      rintro v39 w39 ⟨⟨a39, c39, rfl, hS39, _⟩, hX39⟩
      rw [hi2, decide_eq_true hR2]
      rw [hi2] at hS39
      have hX39a := (hX29.ext hX34).ext hX39
      refine W.move rfl rfl ?_
      refine W.extract rfl rfl rfl ?_
      refine W.extract rfl rfl rfl ?_
      refine W.eqv (v' := .bool true) (rfl) ?_
      refine W.assign rfl rfl ?_
      refine W.assign rfl rfl ?_
      refine W.nil ?_
      refine At.thenCode ?_
      refine C.seq ?_
      refine C.seq ?_
      refine C.region ?_
      refine W.move rfl rfl ?_
      refine W.call Try.call28 rfl (num_ok _ _) rfl ?_
      rintro v43 w43 ⟨rfl, rfl⟩
      refine W.eqlI rfl rfl rfl ?_
      refine W.nil ?_
      refine At.thenCode ?_
      first | refine C.condD rfl (fun c44 => ?_) (fun c44 => ?_) | refine C.cond rfl (fun c44 => ?_) (fun c44 => ?_)
      · refine C.seq ?_
        refine C.region ?_
        refine W.assign rfl rfl ?_
        refine W.nil ?_
        refine At.thenCode ?_
        refine C.ret ?_
        refine At.thenRet ?_
        refine At.ret1 Try.results9 rfl ?_
        first | exact ⟨rfl, Ext.below hX13a⟩ | exact ⟨rfl, Ext.below hX39a⟩ | exact ⟨rfl, Ext.below hX65a⟩
      · have hE0 : E = 0 := by rcases hcs with h | h <;> omega
        have hln := hlen hE0
        refine C.skip ?_
        refine At.thenCode ?_
        refine C.seq ?_
        refine C.seq ?_
        refine C.region ?_
        refine W.move rfl rfl ?_
        refine W.call Try.call28 rfl (num_ok _ _) rfl ?_
        rintro v46 w46 ⟨rfl, rfl⟩
        refine W.neqI rfl rfl rfl ?_
        refine W.eqv (bF (by rcases hcs with h | h <;> omega)) ?_
        refine W.move rfl rfl ?_
        refine W.wants rfl rfl rfl rfl ?_
        refine W.move rfl rfl ?_
        refine W.wants rfl rfl rfl rfl ?_
        first | refine W.notD rfl rfl ?_ | refine W.notB rfl rfl ?_
        refine W.pickF rfl rfl rfl ?_
        refine W.move rfl rfl ?_
        refine W.wants rfl rfl rfl rfl ?_
        refine W.move rfl rfl ?_
        refine W.wants rfl rfl rfl rfl ?_
        first | refine W.notD rfl rfl ?_ | refine W.notB rfl rfl ?_
        refine W.pickF rfl rfl rfl ?_
        refine W.move rfl rfl ?_
        refine W.wants rfl rfl rfl rfl ?_
        refine W.move rfl rfl ?_
        refine W.wants rfl rfl rfl rfl ?_
        refine W.lenS rfl Try.underlying48 rfl ?_
        refine W.wants rfl rfl rfl rfl ?_
        refine W.move rfl rfl ?_
        refine W.wants rfl rfl rfl rfl ?_
        refine W.neqI rfl rfl rfl ?_
        refine W.eqv (bF (by rw [hil, hln]; omega)) ?_
        refine W.pickF rfl rfl rfl ?_
        refine W.move rfl rfl ?_
        refine W.wants rfl rfl rfl rfl ?_
        refine W.move rfl rfl ?_
        refine W.wants rfl rfl rfl rfl ?_
        refine W.move rfl rfl ?_
        refine W.wants rfl rfl rfl rfl ?_
        refine W.call Try.call27 rfl (Ints.SameInts_ok a29 c29 L a39 c39 L _ ((hS29.ext hX34).ext hX39) hS39 (by omega)) rfl ?_
        rintro v65 w65 ⟨rfl, hX65⟩
        have hS29f : Zs w65 a29 c29 L := ((hS29.ext hX34).ext hX39).ext hX65
        have hS34f : Zs w65 a34 c34 (invL L) := (hS34.ext hX39).ext hX65
        have hX65a := hX39a.ext hX65
        refine W.eqv (v' := .bool true) (by simp) ?_
        refine W.wants rfl rfl rfl rfl ?_
        first | refine W.notD rfl rfl ?_ | refine W.notB rfl rfl ?_
        refine W.pickF rfl rfl rfl ?_
        refine W.nil ?_
        refine At.thenCode ?_
        refine C.condF rfl ?_
        refine C.skip ?_
        refine At.thenCode ?_
        refine C.seq ?_
        refine C.seq ?_
        refine C.region ?_
        refine W.assign rfl rfl ?_
        refine W.nil ?_
        refine At.thenCode ?_
        refine C.block ?_
        refine C.loop (X := Nat) (fun x_ => [(0, .int .i64 n), (6, .slice a29 L.length c29), (8, .slice a34 (invL L).length c34), (12, .int .i64 (x_ : Int))]) (fun x_ w1 => w65 = w1 ∧ x_ ≤ L.length) (fun x_ => L.length - x_) (0) (Sub.cons (rfl) (Sub.cons (rfl) (Sub.cons (rfl) (Sub.cons (rfl) (Sub.nil))))) ?start1 ?_
        case start1 =>
          show w65 = _ ∧ (0) ≤ L.length
          exact ⟨rfl, by omega⟩
        rintro i w1 hI_
        replace hI_ : w65 = w1 ∧ i ≤ L.length := hI_
        obtain ⟨rfl, hi⟩ := hI_
        refine C.weaken (l' := [(0, .int .i64 n), (6, .slice a29 L.length c29), (8, .slice a34 (invL L).length c34), (12, .int .i64 (i : Int))]) (Sub.cons (rfl) (Sub.cons (rfl) (Sub.cons (rfl) (Sub.cons (rfl) (Sub.nil))))) ?_
        refine C.seq ?_
        refine C.seq ?_
        refine C.region ?_
        refine W.move rfl rfl ?_
        refine W.move rfl rfl ?_
        refine W.lssI rfl rfl rfl ?_
        refine W.nil ?_
        refine At.thenCode ?_
        first | refine C.condD rfl (fun c70 => ?_) (fun c70 => ?_) | refine C.cond rfl (fun c70 => ?_) (fun c70 => ?_)
        · have hlt : i < L.length := by omega
          have hx := hRt.range hlt
          have hx2 := hR2.range (show i < (invL L).length by omega)
          have hg1' := invL_get hRt hlt
          have hg2' := get_invL hRt hlt
          rw [hil] at hx2
          refine C.skip ?_
          refine At.thenCode ?_
          refine C.seq ?_
          refine C.block ?_
          refine C.seq ?_
          refine C.region ?_
          refine W.move rfl rfl ?_
          refine W.move rfl rfl ?_
          refine W.move rfl rfl ?_
          refine W.idx (v := .int .i64 (L.getD i 0)) XI Try.underlying48 Try.underlying3 rfl rfl hS29f rfl (by omega) ?_ rfl rfl ?_
          · rw [Int.toNat_natCast]; exact get_z hlt
          intro p76
          -- read with the address
          refine W.idx (v := .int .i64 (i : Int)) XI Try.underlying48 Try.underlying3 rfl rfl hS34f rfl (by omega) ?_ rfl rfl ?_
          · rw [← hg1']; exact get_z (by omega)
          intro p78
          -- read with the address
          refine W.move rfl rfl ?_
          refine W.neqI rfl rfl rfl ?_
          refine W.eqv (bF (by simp)) ?_
          refine W.move rfl rfl ?_
          refine W.wants rfl rfl rfl rfl ?_
          refine W.move rfl rfl ?_
          refine W.wants rfl rfl rfl rfl ?_
          refine W.move rfl rfl ?_
          refine W.wants rfl rfl rfl rfl ?_
          refine W.move rfl rfl ?_
          refine W.wants rfl rfl rfl rfl ?_
          refine W.indexS (i := (i : Int)) XI Try.underlying48 rfl hS34f rfl ⟨by omega, by omega⟩ rfl ?_
          intro ad86 _ _ hc86
          obtain ⟨ad86', he86, hc86'⟩ := PtI.of hc86 (show i < (invL L).length by omega)
          obtain rfl : ad86 = ad86' := by injection he86 with h1; exact Option.some.inj h1
          refine W.wants rfl rfl rfl rfl ?_
          refine W.load (v := .int .i64 ((invL L).getD i 0)) rfl Try.underlying3 rfl hc86' rfl ?_
          refine W.wants rfl rfl rfl rfl ?_
          refine W.indexS (i := (invL L).getD i 0) XI Try.underlying48 rfl hS29f rfl ⟨by omega, by omega⟩ rfl ?_
          intro ad88 _ _ hc88
          rw [show (invL L).getD i 0 = ((((invL L).getD i 0).toNat : Nat) : Int) by omega] at hc88
          obtain ⟨ad88', he88, hc88'⟩ := PtI.of hc88 (show ((invL L).getD i 0).toNat < L.length by omega)
          obtain rfl : ad88 = ad88' := by injection he88 with h1; exact Option.some.inj h1
          rw [hg2'] at hc88'
          refine W.wants rfl rfl rfl rfl ?_
          refine W.load (v := .int .i64 (i : Int)) rfl Try.underlying3 rfl hc88' rfl ?_
          refine W.wants rfl rfl rfl rfl ?_
          refine W.move rfl rfl ?_
          refine W.wants rfl rfl rfl rfl ?_
          refine W.neqI rfl rfl rfl ?_
          refine W.eqv (bF (by simp)) ?_
          refine W.pickF rfl rfl rfl ?_
          refine W.nil ?_
          refine At.thenCode ?_
          refine C.condF rfl ?_
          refine C.skip ?_
          refine At.blockNormal ?_
          refine At.thenCode ?_
          refine C.region ?_
          refine W.move rfl rfl ?_
          first | refine W.addI rfl rfl (by omega) rfl ?_ | refine W.addW rfl rfl rfl ?_
          refine W.assign rfl rfl ?_
          refine W.nil ?_
          refine At.thenRound (i + 1) (Sub.cons (rfl) (Sub.cons (rfl) (Sub.cons (rfl) (Sub.cons (rfl) (Sub.nil))))) (show w65 = _ ∧ (i + 1) ≤ L.length from ?_) (show L.length - (i + 1) < L.length - i from ?_)
          · exact ⟨rfl, by omega⟩
          · omega
        · refine C.exit ?_
          refine At.thenExit ?_
          refine At.thenExit ?_
          refine At.blockSelf ?_
          refine At.thenCode ?_
          refine C.seq ?_
          refine C.region ?_
          refine W.assign rfl rfl ?_
          refine W.nil ?_
          refine At.thenCode ?_
          refine C.ret ?_
          refine At.ret1 Try.results9 rfl ?_
          first | exact ⟨rfl, Ext.below hX13a⟩ | exact ⟨rfl, Ext.below hX39a⟩ | exact ⟨rfl, Ext.below hX65a⟩
theorem PermuteSwaps_walk (n : Int) (seed : List UInt8) (w : World) (hb : -9223372036854775808 ≤ n ∧ n ≤ 9223372036854775807) (hs : seed.length = 32) :
    Ct Try.prog 11 #[.int .i64 n, keyV seed] w (LawOk w) := by
  refine Ct.enter [(0, .int .i64 n), (1, keyV seed)] Try.func11 rfl rfl rfl rfl ?_
  obtain ⟨f, hf⟩ : ∃ f, f = wordV seed [115] := ⟨_, rfl⟩
  have hle := ofL_le f n
  obtain ⟨P, hP⟩ : ∃ P, P = ofL f n := ⟨_, rfl⟩
  obtain ⟨E0, hE0⟩ : ∃ E0, E0 = ofE f n := ⟨_, rfl⟩
  obtain ⟨N, hN⟩ : ∃ N : Nat, N = n.toNat := ⟨_, rfl⟩
  rw [← hP] at hle
  refine C.seq ?_
  refine C.region ?_
  refine W.box (seed.map byteV) rfl rfl rfl ?_
  intro g3 w3 hg3 hX3 hB3
  refine W.assign rfl rfl ?_
  refine W.nil ?_
  refine At.thenCode ?_
  refine C.seq ?_
  refine C.region ?_
  refine W.call Try.call24 rfl (alive_ok _) rfl ?_
  rintro v15 w15 ⟨rfl, hX15⟩
  have hX15a := hX3.ext hX15
  have hB15 := hB3.ext hX15
  refine W.assign rfl rfl ?_
  refine W.nil ?_
  refine At.thenCode ?_
  refine C.seq ?_
  refine C.seq ?_
  refine C.region ?_
  refine W.move rfl rfl ?_
  first | refine W.notD rfl rfl ?_ | refine W.notB rfl rfl ?_
  refine W.move rfl rfl ?_
  refine W.wants rfl rfl rfl rfl ?_
  refine W.move rfl rfl ?_
  refine W.wants rfl rfl rfl rfl ?_
  refine W.lssI rfl rfl rfl ?_
  refine W.pickF rfl rfl rfl ?_
  refine W.move rfl rfl ?_
  first | refine W.splitD (fun g22 => ?_) (fun g22 => ?_) | refine W.splitB (fun g22 => ?_) (fun g22 => ?_)
  · refine W.skips rfl rfl rfl rfl rfl rfl ?_
    refine W.skips rfl rfl rfl rfl rfl rfl ?_
    refine W.pickT rfl rfl rfl ?_
    refine W.nil ?_
    refine At.thenCode ?_
    refine C.condT rfl ?_
    refine C.seq ?_
    refine C.region ?_
    refine W.move rfl rfl ?_
    refine W.assign rfl rfl ?_
    refine W.nil ?_
    refine At.thenCode ?_
    refine C.ret ?_
    refine At.thenRet ?_
    refine At.ret1 Try.results11 rfl ?_
    first | exact ⟨rfl, Ext.below hX15a⟩ | exact ⟨rfl, Ext.below hX35a⟩ | exact ⟨rfl, Ext.below (hXe.ext hX91)⟩
  · refine W.wants rfl rfl rfl rfl ?_
    refine W.move rfl rfl ?_
    refine W.wants rfl rfl rfl rfl ?_
    refine W.gtrI rfl rfl rfl ?_
    refine W.pickF rfl rfl rfl ?_
    refine W.nil ?_
    refine At.thenCode ?_
    first | refine C.condD rfl (fun c25 => ?_) (fun c25 => ?_) | refine C.cond rfl (fun c25 => ?_) (fun c25 => ?_)
    · refine C.seq ?_
      refine C.region ?_
      refine W.move rfl rfl ?_
      refine W.assign rfl rfl ?_
      refine W.nil ?_
      refine At.thenCode ?_
      refine C.ret ?_
      refine At.thenRet ?_
      refine At.ret1 Try.results11 rfl ?_
      first | exact ⟨rfl, Ext.below hX15a⟩ | exact ⟨rfl, Ext.below hX35a⟩ | exact ⟨rfl, Ext.below (hXe.ext hX91)⟩
    · refine C.skip ?_
      refine At.thenCode ?_
      refine C.seq ?_
      refine C.region ?_
      refine W.move rfl rfl ?_
      have hcs := ofE_cases (f := f) (n := n) (by omega)
      rw [← hE0] at hcs
      refine W.loadA rfl (hB15.cells (o := 0)) Try.underlying23 rfl (by rw [List.drop_zero, List.length_map, hs]; kernel_rfl) rfl ?_
      refine W.call Try.call14 rfl (Beacon.New_ok seed [115] _ hs) rfl ?_
      rintro v30 w30 ⟨⟨g1, rfl, hg1, hS1⟩, hX30⟩
      refine W.call Try.call25 rfl (Perm.Of_ok g1 seed [115] n _ hs (by decide) hS1 hb) rfl ?_
      rw [← hf]
      rintro v31 w31 ⟨⟨a31, c31, rfl, hS31, hb31⟩, hc31⟩
      rw [← hP, ← hE0]
      rw [← hP] at hS31
      have hs15 := hX15a.size
      have hlt3 := hB15.lt
      have hX31 : Ext w w31 := (hX15a.ext hX30).news hc31 (fun k hk => Or.inr (by omega))
      have hB31 : Bk w31 g3 (seed.map byteV) := (hB15.ext hX30).chg hc31 (by omega)
      refine W.move rfl rfl ?_
      refine W.extract rfl rfl rfl ?_
      refine W.extract rfl rfl rfl ?_
      refine W.assign rfl rfl ?_
      refine W.assign rfl rfl ?_
      refine W.nil ?_
      refine At.thenCode ?_
      refine C.seq ?_
      refine C.region ?_
      refine W.loadA rfl (hB31.cells (o := 0)) Try.underlying23 rfl (by rw [List.drop_zero, List.length_map, hs]; kernel_rfl) rfl ?_
      refine W.call Try.call14 rfl (Beacon.New_ok seed [115] _ hs) rfl ?_
      rintro v35 w35 ⟨⟨g, rfl, hg, hS35⟩, hX35⟩
      have hX35a := hX31.ext hX35
      have hgl := hS35.lt
      have hs31 := hX31.size
      have hs35 := hX35.size
      refine W.assign rfl rfl ?_
      refine W.nil ?_
      refine At.thenCode ?_
      refine C.seq ?_
      refine C.seq ?_
      refine C.region ?_
      refine W.move rfl rfl ?_
      refine W.call Try.call28 rfl (num_ok _ _) rfl ?_
      rintro v37 w37 ⟨rfl, rfl⟩
      refine W.neqI rfl rfl rfl ?_
      refine W.nil ?_
      refine At.thenCode ?_
      first | refine C.condD rfl (fun c38 => ?_) (fun c38 => ?_) | refine C.cond rfl (fun c38 => ?_) (fun c38 => ?_)
      · have hE9 : E0 = 9 := by rcases hcs with h | h <;> omega
        refine C.seq ?_
        refine C.region ?_
        refine W.move rfl rfl ?_
        refine W.call Try.call28 rfl (num_ok _ _) rfl ?_
        rintro v40 w40 ⟨rfl, rfl⟩
        refine W.eqlI rfl rfl rfl ?_
        refine W.eqv (bT (hE9)) ?_
        refine W.assign rfl rfl ?_
        refine W.nil ?_
        refine At.thenCode ?_
        refine C.ret ?_
        refine At.thenRet ?_
        refine At.ret1 Try.results11 rfl ?_
        first | exact ⟨rfl, Ext.below hX15a⟩ | exact ⟨rfl, Ext.below hX35a⟩ | exact ⟨rfl, Ext.below (hXe.ext hX91)⟩
      · have hE1 : E0 = 0 := by omega
        have hsh := ofE_sh (f := f) (n := n) (by omega)
        rw [← hE0, hE1, ← hN] at hsh
        have hfit := ofL_fit (f := f) (n := n) (by rw [← hE0]; exact hE1)
        rw [← hP, ← hN] at hfit
        have hPl : P.length = N := by rw [hfit, shL_length, idL_length]
        refine C.skip ?_
        refine At.thenCode ?_
        refine C.seq ?_
        refine C.region ?_
        refine W.assign rfl rfl ?_
        refine W.nil ?_
        refine At.thenCode ?_
        refine C.seq ?_
        refine C.seq ?_
        refine C.region ?_
        refine W.assign rfl rfl ?_
        refine W.nil ?_
        refine At.thenCode ?_
        refine C.block ?_
        refine C.loop (X := Nat × Value) (fun x_ => [(0, .int .i64 n), (6, .slice a31 P.length c31), (8, .pointer (some ⟨g, 0, none⟩)), (9, x_.2), (10, .int .i64 (x_.1 : Int))]) (fun x_ w1 => Ext w35 w1 ∧ x_.1 ≤ N ∧ Oz w1 w35.heap.size x_.2 (idL x_.1)) (fun x_ => N - x_.1) (0, .slice none 0 0) (Sub.cons (rfl) (Sub.cons (rfl) (Sub.cons (rfl) (Sub.cons (rfl) (Sub.cons (rfl) (Sub.nil)))))) ?start1 ?_
        case start1 =>
          show Ext w35 _ ∧ (0) ≤ N ∧ Oz _ w35.heap.size (.slice none 0 0) (idL (0))
          exact ⟨Ext.refl _, by omega, World.ownsRow_nil _ _ _ _⟩
        rintro ⟨i, v⟩ w1 hI_
        replace hI_ : Ext w35 w1 ∧ i ≤ N ∧ Oz w1 w35.heap.size v (idL i) := hI_
        obtain ⟨hX1, hi, hO1⟩ := hI_
        refine C.weaken (l' := [(0, .int .i64 n), (6, .slice a31 P.length c31), (8, .pointer (some ⟨g, 0, none⟩)), (9, v), (10, .int .i64 (i : Int))]) (Sub.cons (rfl) (Sub.cons (rfl) (Sub.cons (rfl) (Sub.cons (rfl) (Sub.cons (rfl) (Sub.nil)))))) ?_
        refine C.seq ?_
        refine C.seq ?_
        refine C.region ?_
        refine W.move rfl rfl ?_
        refine W.move rfl rfl ?_
        refine W.lssI rfl rfl rfl ?_
        refine W.nil ?_
        refine At.thenCode ?_
        first | refine C.condD rfl (fun c44 => ?_) (fun c44 => ?_) | refine C.cond rfl (fun c44 => ?_) (fun c44 => ?_)
        · refine C.skip ?_
          refine At.thenCode ?_
          refine C.seq ?_
          refine C.block ?_
          refine C.region ?_
          refine W.move rfl rfl ?_
          refine W.move rfl rfl ?_
          refine W.litV [.int .i64 (i : Int)] XI Try.underlying48 rfl rfl (fun u hu => by simp at hu; subst hu; rfl) rfl rfl rfl ?_
          intro g49 w49 hg49 hX49 _ hS49
          have hO49 := ownsRow_ext hO1 hX49
          have hil := idL_length i
          refine W.append XI Try.underlying48 rfl rfl hO49 hS49 (fun u hu => by simp at hu; subst hu; rfl) (by simp only [List.length_singleton]; omega) (by simp only [List.length_singleton]; omega) (by have := hX1.size; have := hX49.size; omega) rfl ?_
          intro v50 w50 ho50 hg50 _
          have hX50 : Ext w35 w50 := (hX1.ext hX49).news (Chg.of_grown hg50) (fun k hk => Or.inr ((World.ownsRow.lt hO49 k hk.symm).1))
          refine W.assign rfl rfl ?_
          refine W.nil ?_
          refine At.blockNormal ?_
          refine At.thenCode ?_
          refine C.region ?_
          refine W.move rfl rfl ?_
          first | refine W.addI rfl rfl (by omega) rfl ?_ | refine W.addW rfl rfl rfl ?_
          refine W.assign rfl rfl ?_
          refine W.nil ?_
          refine At.thenRound (i + 1, v50) (Sub.cons (rfl) (Sub.cons (rfl) (Sub.cons (rfl) (Sub.cons (rfl) (Sub.cons (rfl) (Sub.nil)))))) (show Ext w35 _ ∧ (i + 1) ≤ N ∧ Oz _ w35.heap.size (v50) (idL (i + 1)) from ?_) (show N - (i + 1) < N - i from ?_)
          · refine ⟨hX50, by omega, ?_⟩
            show World.ownsRow _ _ _ _ _ _ _
            rw [← idL_succ, List.length_append, List.map_append]
            exact ho50
          · omega
        · obtain rfl : i = N := by omega
          have hil := idL_length i
          obtain ⟨ao, c, rfl, hhd⟩ := ownz_head hO1
          have hO1 : w1.ownsRow w35.heap.size 3 1 (.slice ao i c) i ((idL i).map (.int .i64)) := by have h := hO1; unfold Oz at h; rwa [hil] at h
          rw [hil]
          have hs1 := hX1.size
          refine C.exit ?_
          refine At.thenExit ?_
          refine At.thenExit ?_
          refine At.blockSelf ?_
          refine At.thenCode ?_
          refine C.seq ?_
          refine C.seq ?_
          refine C.region ?_
          refine W.move rfl rfl ?_
          first | refine W.subI rfl rfl (by omega) rfl ?_ | refine W.subW rfl rfl rfl ?_
          refine W.assign rfl rfl ?_
          refine W.nil ?_
          refine At.thenCode ?_
          refine C.block ?_
          refine C.loop (X := Int × Nat × Nat × (List Int)) (fun x_ => [(6, .slice a31 P.length c31), (8, .pointer (some ⟨g, 0, none⟩)), (9, .slice ao i c), (11, .int .i64 x_.1)]) (fun x_ w2 => Chg (fun q => q = g) w35 w2 ∧ x_.2.2.2.length = i ∧ (x_.2.1 < i ∨ x_.2.1 = 0) ∧ (x_.1 = ((x_.2.1 : Nat) : Int) ∨ (x_.1 = -1 ∧ x_.2.1 = 0)) ∧ World.ownsRow w2 w35.heap.size 3 1 (.slice ao i c) i (x_.2.2.2.map (.int .i64)) ∧ St w2 g seed [115] x_.2.2.1 ∧ x_.2.2.1 + 64 * x_.2.1 ≤ 64000 ∧ shE f (i - 1) 0 = shE f x_.2.1 x_.2.2.1 ∧ shL f (i - 1) 0 (idL i) = shL f x_.2.1 x_.2.2.1 x_.2.2.2) (fun x_ => x_.2.1) (n - 1, i - 1, 0, idL i) (Sub.cons (rfl) (Sub.cons (rfl) (Sub.cons (rfl) (Sub.cons (rfl) (Sub.nil))))) ?start2 ?_
          case start2 =>
            show Chg (fun q => q = g) w35 _ ∧ (idL i).length = i ∧ ((i - 1) < i ∨ (i - 1) = 0) ∧ ((n - 1) = (((i - 1) : Nat) : Int) ∨ ((n - 1) = -1 ∧ (i - 1) = 0)) ∧ World.ownsRow _ w35.heap.size 3 1 (.slice ao i c) i ((idL i).map (.int .i64)) ∧ St _ g seed [115] (0) ∧ (0) + 64 * (i - 1) ≤ 64000 ∧ shE f (i - 1) 0 = shE f (i - 1) (0) ∧ shL f (i - 1) 0 (idL i) = shL f (i - 1) (0) (idL i)
            exact ⟨hX1.mono fun _ x => x.elim, idL_length i, by omega, by omega, hO1, hS35.ext hX1, by omega, rfl, rfl⟩
          rintro ⟨z, k, a, L⟩ w2 hI_
          replace hI_ : Chg (fun q => q = g) w35 w2 ∧ L.length = i ∧ (k < i ∨ k = 0) ∧ (z = ((k : Nat) : Int) ∨ (z = -1 ∧ k = 0)) ∧ World.ownsRow w2 w35.heap.size 3 1 (.slice ao i c) i (L.map (.int .i64)) ∧ St w2 g seed [115] a ∧ a + 64 * k ≤ 64000 ∧ shE f (i - 1) 0 = shE f k a ∧ shL f (i - 1) 0 (idL i) = shL f k a L := hI_
          obtain ⟨hC, hL, hk, hz, hO, hS3, ha, hsE, hsL⟩ := hI_
          refine C.weaken (l' := [(6, .slice a31 P.length c31), (8, .pointer (some ⟨g, 0, none⟩)), (9, .slice ao i c), (11, .int .i64 z)]) (Sub.cons (rfl) (Sub.cons (rfl) (Sub.cons (rfl) (Sub.cons (rfl) (Sub.nil))))) ?_
          refine C.seq ?_
          refine C.seq ?_
          refine C.region ?_
          refine W.move rfl rfl ?_
          refine W.gtrI rfl rfl rfl ?_
          refine W.nil ?_
          refine At.thenCode ?_
          first | refine C.condD rfl (fun c54 => ?_) (fun c54 => ?_) | refine C.cond rfl (fun c54 => ?_) (fun c54 => ?_)
          · obtain ⟨q, hkq⟩ : ∃ q, k = q + 1 := ⟨k - 1, by omega⟩
            have hzq : z = ((q + 1 : Nat) : Int) := by omega
            rw [hkq, shE] at hsE
            rw [hkq, shL] at hsL
            have hqi : q + 1 < i := by omega
            obtain ⟨g18, hq18, hb18, hl18⟩ := hhd (by intro h; rw [h] at hil; simp at hil; omega)
            refine C.skip ?_
            refine At.thenCode ?_
            refine C.seq ?_
            refine C.block ?_
            refine C.seq ?_
            refine C.region ?_
            refine W.move rfl rfl ?_
            refine W.move rfl rfl ?_
            first | refine W.convIN (M := 18446744073709551616) rfl Try.underlying3 Try.underlying30 rfl rfl (by omega) rfl ?_ | refine W.convIU (M := 18446744073709551616) rfl Try.underlying3 Try.underlying30 rfl rfl rfl ?_
            refine W.eqv (v' := .int .u64 ((q + 1 : Nat) : Int)) (iV (by omega)) ?_
            refine W.addU (M := 18446744073709551616) (n := 1) rfl rfl rfl rfl rfl ?_
            refine W.eqv (v' := .int .u64 ((q + 2 : Nat) : Int)) (iV (by unfold addM; omega)) ?_
            refine W.call Try.call18 rfl (Beacon.Next_ok g seed [115] a (q + 2) _ hs (by decide) (by omega) hS3 (by omega)) rfl ?_
            rintro v62 w40 ⟨rfl, hS40, hc40⟩
            rw [← hf] at hS40 ⊢
            have hal := nextI_le f (q + 2) a
            have hxl := nextX_lt (f := f) (n := q + 2) (i := a)
            obtain ⟨X, hX⟩ : ∃ X, X = nextX f (q + 2) a := ⟨_, rfl⟩
            obtain ⟨E, hE⟩ : ∃ E, E = nextE f (q + 2) a := ⟨_, rfl⟩
            rw [← hX] at hxl hsL ⊢
            rw [← hE] at hxl hsE ⊢
            have hEz : E = 0 := by
              by_cases h : E = 0
              · exact h
              · rw [if_neg h] at hsE; omega
            rw [if_pos hEz] at hsE
            have hXl := hxl hEz
            have hO40 := ownsRow_chg hO hc40 (fun k hk h => by rw [hq18] at hk; have h2 : g18 = k := Option.some.inj hk; omega)
            have hOq : w40.ownsRow w35.heap.size 3 1 (.slice (some ⟨g18, 0, none⟩) i c) i (L.map (.int .i64)) := by rw [← hq18]; exact hO40
            refine W.move rfl rfl ?_
            refine W.extract rfl rfl rfl ?_
            refine W.extract rfl rfl rfl ?_
            refine W.assign rfl rfl ?_
            refine W.assign rfl rfl ?_
            refine W.nil ?_
            refine At.thenCode ?_
            refine C.seq ?_
            refine C.seq ?_
            refine C.region ?_
            refine W.move rfl rfl ?_
            refine W.call Try.call28 rfl (num_ok _ _) rfl ?_
            rintro v66 w66 ⟨rfl, rfl⟩
            refine W.neqI rfl rfl rfl ?_
            refine W.eqv (bF (by omega)) ?_
            refine W.move rfl rfl ?_
            refine W.wants rfl rfl rfl rfl ?_
            refine W.move rfl rfl ?_
            refine W.wants rfl rfl rfl rfl ?_
            refine W.move rfl rfl ?_
            refine W.wants rfl rfl rfl rfl ?_
            first | refine W.convIN (M := 18446744073709551616) rfl Try.underlying3 Try.underlying30 rfl rfl (by omega) rfl ?_ | refine W.convIU (M := 18446744073709551616) rfl Try.underlying3 Try.underlying30 rfl rfl rfl ?_
            refine W.eqv (v' := .int .u64 ((q + 1 : Nat) : Int)) (iV (by omega)) ?_
            refine W.wants rfl rfl rfl rfl ?_
            refine W.gtrU rfl rfl rfl ?_
            refine W.eqv (bF (by omega)) ?_
            refine W.pickF rfl rfl rfl ?_
            refine W.nil ?_
            refine At.thenCode ?_
            refine C.condF rfl ?_
            refine C.skip ?_
            refine At.thenCode ?_
            refine C.seq ?_
            refine C.region ?_
            refine W.move rfl rfl ?_
            refine W.move rfl rfl ?_
            refine W.indexS (i := z) XI Try.underlying48 rfl (own_slz hO40) rfl ⟨by omega, by omega⟩ rfl ?_
            intro ad76 _ had76 _
            obtain rfl : ad76 = ⟨g18, q + 1, none⟩ := by rw [had76 _ hq18, add_mk, show z.toNat = q + 1 by omega, Nat.zero_add, Nat.mul_one]
            refine W.load (v := .int .i64 (L.getD (q + 1) 0)) rfl Try.underlying3 rfl (at_zo (own_slz hO40) hq18 (by omega)) rfl ?_
            refine W.assign rfl rfl ?_
            refine W.nil ?_
            refine At.thenCode ?_
            refine C.seq ?_
            refine C.region ?_
            refine W.move rfl rfl ?_
            refine W.move rfl rfl ?_
            refine W.move rfl rfl ?_
            refine W.move rfl rfl ?_
            refine W.indexS (i := (X : Int)) XI Try.underlying48 rfl (own_slz hO40) rfl ⟨by omega, by omega⟩ rfl ?_
            intro ad82 _ had82 _
            obtain rfl : ad82 = ⟨g18, X, none⟩ := by rw [had82 _ hq18, add_mk, Int.toNat_natCast, Nat.zero_add, Nat.mul_one]
            refine W.load (v := .int .i64 (L.getD X 0)) rfl Try.underlying3 rfl (at_zo (own_slz hO40) hq18 (by omega)) rfl ?_
            refine W.indexS (i := z) XI Try.underlying48 rfl (own_slz hO40) rfl ⟨by omega, by omega⟩ rfl ?_
            intro ad84 _ had84 _
            obtain rfl : ad84 = ⟨g18, q + 1, none⟩ := by rw [had84 _ hq18, add_mk, show z.toNat = q + 1 by omega, Nat.zero_add, Nat.mul_one]
            refine W.storeO rfl rfl rfl hOq (by omega) (by kernel_rfl) ?_
            intro w13 hc13 hO13
            rw [z_set] at hO13
            refine W.nil ?_
            refine At.thenCode ?_
            refine C.region ?_
            refine W.move rfl rfl ?_
            refine W.move rfl rfl ?_
            refine W.move rfl rfl ?_
            refine W.indexS (i := (X : Int)) XI Try.underlying48 rfl (by rw [hq18]; exact own_slz hO13) rfl ⟨by omega, by omega⟩ rfl ?_
            intro ad88 _ had88 _
            obtain rfl : ad88 = ⟨g18, X, none⟩ := by rw [had88 _ hq18, add_mk, Int.toNat_natCast, Nat.zero_add, Nat.mul_one]
            refine W.storeO rfl rfl rfl hO13 (by omega) (by kernel_rfl) ?_
            intro w16 hc16 hO16
            rw [z_set] at hO16
            have hO16 : w16.ownsRow w35.heap.size 3 1 (.slice (some ⟨g18, 0, none⟩) i c) i ((swapL L (q + 1) X).map (.int .i64)) := hO16
            rw [← hq18] at hO16
            have hCe := ((hC.trans hc40).news hc13 (fun k hk => Or.inr (by omega))).news hc16 (fun k hk => Or.inr (by omega))
            refine W.nil ?_
            refine At.blockNormal ?_
            refine At.thenCode ?_
            refine C.region ?_
            refine W.move rfl rfl ?_
            first | refine W.subI rfl rfl (by omega) rfl ?_ | refine W.subW rfl rfl rfl ?_
            refine W.assign rfl rfl ?_
            refine W.nil ?_
            refine At.thenRound (((q : Nat) : Int), q, nextI f (q + 2) a, swapL L (q + 1) X) (Sub.cons (rfl) (Sub.cons (rfl) (Sub.cons (rfl) (Sub.cons (look_eq rfl (by rw [show z - 1 = ((q : Nat) : Int) by omega])) (Sub.nil))))) (show Chg (fun q => q = g) w35 _ ∧ (swapL L (q + 1) X).length = i ∧ ((q) < i ∨ (q) = 0) ∧ ((((q : Nat) : Int)) = (((q) : Nat) : Int) ∨ ((((q : Nat) : Int)) = -1 ∧ (q) = 0)) ∧ World.ownsRow _ w35.heap.size 3 1 (.slice ao i c) i ((swapL L (q + 1) X).map (.int .i64)) ∧ St _ g seed [115] (nextI f (q + 2) a) ∧ (nextI f (q + 2) a) + 64 * (q) ≤ 64000 ∧ shE f (i - 1) 0 = shE f (q) (nextI f (q + 2) a) ∧ shL f (i - 1) 0 (idL i) = shL f (q) (nextI f (q + 2) a) (swapL L (q + 1) X) from ?_) (show (q) < k from ?_)
            · exact ⟨hCe, by rw [swapL_length]; exact hL, by omega, Or.inl rfl, hO16, (hS40.chg hc13 (by omega)).chg hc16 (by omega), by omega, hsE, hsL⟩
            · omega
          · obtain rfl : k = 0 := by omega
            rw [shL] at hsL
            rw [hsL] at hfit
            have hXe : Ext w w2 := hX35a.news hC (fun k hk => Or.inr (by omega))
            have hS2 : Zs w2 a31 c31 P := (hS31.ext hX35).chg hC (fun ad e hne hk => by
              have := Sl.blk hS31 e hne
              omega)
            refine C.exit ?_
            refine At.thenExit ?_
            refine At.thenExit ?_
            refine At.blockSelf ?_
            refine At.thenCode ?_
            refine C.seq ?_
            refine C.region ?_
            refine W.move rfl rfl ?_
            refine W.move rfl rfl ?_
            have hT : Zs w2 ao c P := by show Sl _ _ _ _ _ _; rw [hPl, hfit]; exact own_slz hO
            have hsm := Ints.SameInts_ok a31 c31 P ao c P w2 hS2 hT (by omega)
            rw [hPl] at hsm
            rw [hPl]
            refine W.call Try.call27 rfl hsm rfl ?_
            rintro v91 w91 ⟨rfl, hX91⟩
            refine W.eqv (v' := .bool true) (by simp) ?_
            refine W.assign rfl rfl ?_
            refine W.nil ?_
            refine At.thenCode ?_
            refine C.ret ?_
            refine At.ret1 Try.results11 rfl ?_
            first | exact ⟨rfl, Ext.below hX15a⟩ | exact ⟨rfl, Ext.below hX35a⟩ | exact ⟨rfl, Ext.below (hXe.ext hX91)⟩
end Go.Proofs.Ytomfnficblnngaa.Law13
