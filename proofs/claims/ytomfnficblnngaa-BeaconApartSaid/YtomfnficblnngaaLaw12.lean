/- The walks of chapter 12's laws. -/
import Derived.Test.YtomfnficblnngaaBeacon2
namespace Go.Proofs.Ytomfnficblnngaa.Law12
open Go Go.RowKit Go.Proofs.Ytomfnficblnngaa.KW Go.Proofs.Ytomfnficblnngaa.Words Go.Proofs.Ytomfnficblnngaa.Sha Go.Proofs.Ytomfnficblnngaa.RSha Go.Proofs.Ytomfnficblnngaa.Beacon
set_option linter.unusedVariables false
set_option linter.unusedSimpArgs false
set_option maxRecDepth 100000

theorem num_ok (e : Int) (w : World) : Ct Try.prog 20 #[.int .i64 e] w (fun v w' => v = .int .i64 e ∧ w = w') := by
  refine Ct.enter [(0, .int .i64 e)] Try.func20 rfl rfl rfl rfl ?_
  refine C.seq ?_
  refine C.region ?_
  refine W.assign rfl rfl ?_
  refine W.nil ?_
  refine At.thenCode ?_
  refine C.seq ?_
  refine C.region ?_
  refine W.move rfl rfl ?_
  refine W.assign rfl rfl ?_
  refine W.nil ?_
  refine At.thenCode ?_
  refine C.ret ?_
  refine At.ret1 Try.results20 rfl ?_
  exact ⟨rfl, rfl⟩
theorem words_apart : wordV (List.replicate 32 0) [97] 1 ≠ wordV (List.replicate 32 0) [97] 2 := by decide +kernel
theorem next_one (f : Nat → Nat) (h : f 0 < 18446744073709551616) : nextE f 1 0 = 0 ∧ nextX f 1 0 = 0 ∧ nextI f 1 0 = 1 := by
  have := next_hit (f := f) (n := 1) (i := 0) (j := 0) (by decide) (by decide) rfl (by rw [Nat.mod_one]; show f 0 ≤ _; omega)
  rw [Nat.mod_one] at this
  exact this
theorem alive_ok (w : World) : Ct Try.prog 13 #[] w (fun v w' => v = .bool true ∧ Ext w w') := by
  refine Ct.enter [] Try.func13 rfl rfl rfl rfl ?_
  obtain ⟨seed, hseed⟩ : ∃ seed : List UInt8, seed = List.replicate 32 0 := ⟨_, rfl⟩
  have hs : seed.length = 32 := by rw [hseed]; rfl
  have hw := words_apart
  rw [← hseed] at hw
  have hn1 := next_one (wordV seed [97]) (wordV_lt _ _ _)
  refine C.seq ?_
  refine C.region ?_
  refine W.assign rfl rfl ?_
  refine W.nil ?_
  refine At.thenCode ?_
  refine C.seq ?_
  refine C.region ?_
  refine W.buildAF (List.replicate 32 (byteV 0)) (List.replicate 32 (byteV 0)) X8 Try.underlying23 (by kernel_rfl) rfl rfl rfl ?_
  refine W.eqv (v' := keyV seed) (by rw [hseed]; rfl) ?_
  refine W.call Try.call14 rfl (Beacon.New_ok seed [97] _ hs) rfl ?_
  rintro v5 w5 ⟨⟨g, rfl, hg, hS5⟩, hX5⟩
  refine W.assign rfl rfl ?_
  refine W.nil ?_
  refine At.thenCode ?_
  refine C.seq ?_
  refine C.seq ?_
  refine C.region ?_
  refine W.move rfl rfl ?_
  refine W.eqlPtr (by kernel_rfl) rfl rfl rfl ?_
  refine W.eqv (v' := .bool false) (rfl) ?_
  refine W.nil ?_
  refine At.thenCode ?_
  refine C.condF rfl ?_
  refine C.skip ?_
  refine At.thenCode ?_
  refine C.seq ?_
  refine C.region ?_
  refine W.move rfl rfl ?_
  refine W.call Try.call18 rfl (Beacon.Next_ok g seed [97] 0 1 _ hs (by decide) (by decide) hS5 (by decide)) rfl ?_
  rintro v10 w10 ⟨rfl, hS10, hc10⟩
  rw [hn1.1, hn1.2.1]
  rw [hn1.2.2] at hS10
  refine W.move rfl rfl ?_
  refine W.extract rfl rfl rfl ?_
  refine W.extract rfl rfl rfl ?_
  refine W.assign rfl rfl ?_
  refine W.assign rfl rfl ?_
  refine W.nil ?_
  refine At.thenCode ?_
  refine C.seq ?_
  refine C.region ?_
  refine W.move rfl rfl ?_
  refine W.call Try.call20 rfl (num_ok _ _) rfl ?_
  rintro v14 w14 ⟨rfl, rfl⟩
  refine W.eqlI rfl rfl rfl ?_
  refine W.eqv (bT (rfl)) ?_
  refine W.move rfl rfl ?_
  refine W.wants rfl rfl rfl rfl ?_
  refine W.move rfl rfl ?_
  refine W.wants rfl rfl rfl rfl ?_
  refine W.eqlU (n := 0) rfl rfl rfl ?_
  refine W.eqv (bT (rfl)) ?_
  refine W.pickT rfl rfl rfl ?_
  refine W.move rfl rfl ?_
  refine W.wants rfl rfl rfl rfl ?_
  refine W.move rfl rfl ?_
  refine W.wants rfl rfl rfl rfl ?_
  refine W.call Try.call16 rfl (Beacon.Word_ok g seed [97] 1 _ hs (by decide) (by decide) hS10) rfl ?_
  rintro v22 w22 ⟨rfl, hS22, hc22⟩
  refine W.wants rfl rfl rfl rfl ?_
  refine W.move rfl rfl ?_
  refine W.wants rfl rfl rfl rfl ?_
  refine W.call Try.call16 rfl (Beacon.Word_ok g seed [97] 2 _ hs (by decide) (by decide) hS22) rfl ?_
  rintro v24 w24 ⟨rfl, hS24, hc24⟩
  refine W.wants rfl rfl rfl rfl ?_
  refine W.neqU rfl rfl rfl ?_
  refine W.eqv (bT (hw)) ?_
  refine W.pickT rfl rfl rfl ?_
  refine W.assign rfl rfl ?_
  refine W.nil ?_
  refine At.thenCode ?_
  refine C.ret ?_
  refine At.ret1 Try.results13 rfl ?_
  exact ⟨rfl, ((hX5.news hc10 (fun k hk => Or.inr (by omega))).news hc22 (fun k hk => Or.inr (by omega))).news hc24 (fun k hk => Or.inr (by omega))⟩
theorem BeaconApart_walk (seed a b : List UInt8) (times : Int) (w : World) (hs : seed.length = 32) (hla : a.length ≤ 9223372036854775807) (hlb : b.length ≤ 9223372036854775807) (ht : -9223372036854775808 ≤ times ∧ times ≤ 9223372036854775807) :
    Ct Try.prog 6 #[keyV seed, strV a, strV b, .int .i64 times] w (LawOk w) := by
  refine Ct.enter [(0, keyV seed), (1, strV a), (2, strV b), (3, .int .i64 times)] Try.func6 rfl rfl rfl rfl ?_
  have hna : (⟨a.toArray⟩ : ByteArray).size = a.length := by simp [ByteArray.size]
  have hnb : (⟨b.toArray⟩ : ByteArray).size = b.length := by simp [ByteArray.size]
  refine C.seq ?_
  refine C.region ?_
  refine W.box (seed.map byteV) rfl rfl rfl ?_
  intro g4 w4 hg4 hX4 hB4
  refine W.assign rfl rfl ?_
  refine W.nil ?_
  refine At.thenCode ?_
  refine C.seq ?_
  refine C.region ?_
  refine W.call Try.call13 rfl (alive_ok _) rfl ?_
  rintro v14 w14 ⟨rfl, hX14⟩
  have hX14a := hX4.ext hX14
  have hB14 := hB4.ext hX14
  refine W.assign rfl rfl ?_
  refine W.nil ?_
  refine At.thenCode ?_
  refine C.seq ?_
  refine C.seq ?_
  refine C.region ?_
  refine W.move rfl rfl ?_
  first | refine W.notD rfl rfl ?_ | refine W.notB rfl rfl ?_
  refine W.move rfl rfl ?_
  refine W.wants rfl rfl rfl rfl ?_
  refine W.move rfl rfl ?_
  refine W.wants rfl rfl rfl rfl ?_
  refine W.lenStr rfl Try.underlying9 rfl ?_
  refine W.wants rfl rfl rfl rfl ?_
  refine W.gtrI rfl rfl rfl ?_
  refine W.pickF rfl rfl rfl ?_
  refine W.move rfl rfl ?_
  first | refine W.splitD (fun g22 => ?_) (fun g22 => ?_) | refine W.splitB (fun g22 => ?_) (fun g22 => ?_)
  · refine W.skips rfl rfl rfl rfl rfl rfl ?_
    refine W.skips rfl rfl rfl rfl rfl rfl ?_
    refine W.skips rfl rfl rfl rfl rfl rfl ?_
    refine W.pickT rfl rfl rfl ?_
    refine W.move rfl rfl ?_
    refine W.skips rfl rfl rfl rfl rfl rfl ?_
    refine W.skips rfl rfl rfl rfl rfl rfl ?_
    refine W.pickT rfl rfl rfl ?_
    refine W.move rfl rfl ?_
    refine W.skips rfl rfl rfl rfl rfl rfl ?_
    refine W.skips rfl rfl rfl rfl rfl rfl ?_
    refine W.pickT rfl rfl rfl ?_
    refine W.nil ?_
    refine At.thenCode ?_
    refine C.condT rfl ?_
    refine C.seq ?_
    refine C.region ?_
    refine W.move rfl rfl ?_
    refine W.assign rfl rfl ?_
    refine W.nil ?_
    refine At.thenCode ?_
    refine C.ret ?_
    refine At.thenRet ?_
    refine At.ret1 Try.results6 rfl ?_
    first | exact ⟨rfl, Ext.below hX14a⟩ | exact ⟨rfl, Ext.below hXi⟩
  · refine W.wants rfl rfl rfl rfl ?_
    refine W.move rfl rfl ?_
    refine W.wants rfl rfl rfl rfl ?_
    refine W.lenStr rfl Try.underlying9 rfl ?_
    refine W.wants rfl rfl rfl rfl ?_
    refine W.gtrI rfl rfl rfl ?_
    refine W.pickF rfl rfl rfl ?_
    refine W.move rfl rfl ?_
    first | refine W.splitD (fun g27 => ?_) (fun g27 => ?_) | refine W.splitB (fun g27 => ?_) (fun g27 => ?_)
    · refine W.skips rfl rfl rfl rfl rfl rfl ?_
      refine W.skips rfl rfl rfl rfl rfl rfl ?_
      refine W.pickT rfl rfl rfl ?_
      refine W.move rfl rfl ?_
      refine W.skips rfl rfl rfl rfl rfl rfl ?_
      refine W.skips rfl rfl rfl rfl rfl rfl ?_
      refine W.pickT rfl rfl rfl ?_
      refine W.nil ?_
      refine At.thenCode ?_
      refine C.condT rfl ?_
      refine C.seq ?_
      refine C.region ?_
      refine W.move rfl rfl ?_
      refine W.assign rfl rfl ?_
      refine W.nil ?_
      refine At.thenCode ?_
      refine C.ret ?_
      refine At.thenRet ?_
      refine At.ret1 Try.results6 rfl ?_
      first | exact ⟨rfl, Ext.below hX14a⟩ | exact ⟨rfl, Ext.below hXi⟩
    · refine W.wants rfl rfl rfl rfl ?_
      refine W.move rfl rfl ?_
      refine W.wants rfl rfl rfl rfl ?_
      refine W.lssI rfl rfl rfl ?_
      refine W.pickF rfl rfl rfl ?_
      refine W.move rfl rfl ?_
      first | refine W.splitD (fun g31 => ?_) (fun g31 => ?_) | refine W.splitB (fun g31 => ?_) (fun g31 => ?_)
      · refine W.skips rfl rfl rfl rfl rfl rfl ?_
        refine W.skips rfl rfl rfl rfl rfl rfl ?_
        refine W.pickT rfl rfl rfl ?_
        refine W.nil ?_
        refine At.thenCode ?_
        refine C.condT rfl ?_
        refine C.seq ?_
        refine C.region ?_
        refine W.move rfl rfl ?_
        refine W.assign rfl rfl ?_
        refine W.nil ?_
        refine At.thenCode ?_
        refine C.ret ?_
        refine At.thenRet ?_
        refine At.ret1 Try.results6 rfl ?_
        first | exact ⟨rfl, Ext.below hX14a⟩ | exact ⟨rfl, Ext.below hXi⟩
      · refine W.wants rfl rfl rfl rfl ?_
        refine W.move rfl rfl ?_
        refine W.wants rfl rfl rfl rfl ?_
        refine W.gtrI rfl rfl rfl ?_
        refine W.pickF rfl rfl rfl ?_
        refine W.nil ?_
        refine At.thenCode ?_
        first | refine C.condD rfl (fun c34 => ?_) (fun c34 => ?_) | refine C.cond rfl (fun c34 => ?_) (fun c34 => ?_)
        · refine C.seq ?_
          refine C.region ?_
          refine W.move rfl rfl ?_
          refine W.assign rfl rfl ?_
          refine W.nil ?_
          refine At.thenCode ?_
          refine C.ret ?_
          refine At.thenRet ?_
          refine At.ret1 Try.results6 rfl ?_
          first | exact ⟨rfl, Ext.below hX14a⟩ | exact ⟨rfl, Ext.below hXi⟩
        · refine C.skip ?_
          refine At.thenCode ?_
          refine C.seq ?_
          refine C.region ?_
          refine W.loadA rfl ((hB14).cells (o := 0)) Try.underlying23 rfl (by rw [List.drop_zero, List.length_map, hs]; kernel_rfl) rfl ?_
          refine W.move rfl rfl ?_
          refine W.call Try.call14 rfl (Beacon.New_ok seed a _ hs) rfl ?_
          rintro v38 w38 ⟨⟨g1, rfl, hg1, hS1⟩, hX38⟩
          have hl1 := hS1.lt
          refine W.assign rfl rfl ?_
          refine W.nil ?_
          refine At.thenCode ?_
          refine C.seq ?_
          refine C.region ?_
          refine W.loadA rfl ((hB14.ext hX38).cells (o := 0)) Try.underlying23 rfl (by rw [List.drop_zero, List.length_map, hs]; kernel_rfl) rfl ?_
          refine W.move rfl rfl ?_
          refine W.call Try.call14 rfl (Beacon.New_ok seed b _ hs) rfl ?_
          rintro v41 w41 ⟨⟨g2, rfl, hg2, hS2⟩, hX41⟩
          have hl2 := hS2.lt
          refine W.assign rfl rfl ?_
          refine W.nil ?_
          refine At.thenCode ?_
          refine C.seq ?_
          refine C.region ?_
          refine W.loadA rfl (((hB14.ext hX38).ext hX41).cells (o := 0)) Try.underlying23 rfl (by rw [List.drop_zero, List.length_map, hs]; kernel_rfl) rfl ?_
          refine W.move rfl rfl ?_
          refine W.call Try.call14 rfl (Beacon.New_ok seed a _ hs) rfl ?_
          rintro v44 w44 ⟨⟨g3, rfl, hg3, hS3⟩, hX44⟩
          have hs14 := hX14a.size
          have hX44a := ((hX14a.ext hX38).ext hX41).ext hX44
          have hS1 := (hS1.ext hX41).ext hX44
          have hS2 := hS2.ext hX44
          refine W.assign rfl rfl ?_
          refine W.nil ?_
          refine At.thenCode ?_
          refine C.seq ?_
          refine C.seq ?_
          refine C.region ?_
          refine W.assign rfl rfl ?_
          refine W.nil ?_
          refine At.thenCode ?_
          refine C.block ?_
          refine C.loop (X := Nat × Nat) (fun x_ => [(3, .int .i64 times), (10, .pointer (some ⟨g1, 0, none⟩)), (11, .pointer (some ⟨g2, 0, none⟩)), (12, .pointer (some ⟨g3, 0, none⟩)), (13, .int .i64 (x_.1 : Int))]) (fun x_ w1 => Ext w w1 ∧ x_.1 ≤ 30 ∧ x_.2 ≤ 64 * x_.1 ∧ St w1 g1 seed a x_.1 ∧ St w1 g2 seed b x_.2 ∧ St w1 g3 seed a x_.1) (fun x_ => 30 - x_.1) (0, 0) (Sub.cons (rfl) (Sub.cons (rfl) (Sub.cons (rfl) (Sub.cons (rfl) (Sub.cons (rfl) (Sub.nil)))))) ?start1 ?_
          case start1 =>
            show Ext w _ ∧ (0) ≤ 30 ∧ (0) ≤ 64 * (0) ∧ St _ g1 seed a (0) ∧ St _ g2 seed b (0) ∧ St _ g3 seed a (0)
            exact ⟨hX44a, by omega, by omega, hS1, hS2, hS3⟩
          rintro ⟨i, j⟩ w1 hI_
          replace hI_ : Ext w w1 ∧ i ≤ 30 ∧ j ≤ 64 * i ∧ St w1 g1 seed a i ∧ St w1 g2 seed b j ∧ St w1 g3 seed a i := hI_
          obtain ⟨hXi, hi, hj, hS1, hS2, hS3⟩ := hI_
          refine C.weaken (l' := [(3, .int .i64 times), (10, .pointer (some ⟨g1, 0, none⟩)), (11, .pointer (some ⟨g2, 0, none⟩)), (12, .pointer (some ⟨g3, 0, none⟩)), (13, .int .i64 (i : Int))]) (Sub.cons (rfl) (Sub.cons (rfl) (Sub.cons (rfl) (Sub.cons (rfl) (Sub.cons (rfl) (Sub.nil)))))) ?_
          refine C.seq ?_
          refine C.seq ?_
          refine C.region ?_
          refine W.move rfl rfl ?_
          refine W.move rfl rfl ?_
          refine W.lssI rfl rfl rfl ?_
          refine W.nil ?_
          refine At.thenCode ?_
          first | refine C.condD rfl (fun c47 => ?_) (fun c47 => ?_) | refine C.cond rfl (fun c47 => ?_) (fun c47 => ?_)
          · refine C.skip ?_
            refine At.thenCode ?_
            refine C.seq ?_
            refine C.block ?_
            refine C.seq ?_
            refine C.region ?_
            refine W.move rfl rfl ?_
            refine W.move rfl rfl ?_
            first | refine W.convIN (M := 18446744073709551616) rfl Try.underlying3 Try.underlying30 rfl rfl (by omega) rfl ?_ | refine W.convIU (M := 18446744073709551616) rfl Try.underlying3 Try.underlying30 rfl rfl rfl ?_
            obtain ⟨n, hn⟩ : ∃ n, n = i := ⟨_, rfl⟩
            refine W.call Try.call18 rfl (Beacon.Next_ok g2 seed b j i _ hs (by omega) (by omega) hS2 (by omega)) rfl ?_
            rintro v53 w53 ⟨rfl, hS2, hc53⟩
            have hS1 := hS1.chg hc53 (by omega)
            have hS3 := hS3.chg hc53 (by omega)
            have hji := nextI_le (wordV seed b) i j
            refine W.nil ?_
            refine At.thenCode ?_
            refine C.seq ?_
            refine C.region ?_
            refine W.move rfl rfl ?_
            refine W.call Try.call16 rfl (Beacon.Word_ok g1 seed a i _ hs (by omega) (by omega) hS1) rfl ?_
            rintro v55 w55 ⟨rfl, hS1, hc55⟩
            have hS2 := hS2.chg hc55 (by omega)
            have hS3 := hS3.chg hc55 (by omega)
            refine W.move rfl rfl ?_
            refine W.call Try.call16 rfl (Beacon.Word_ok g3 seed a i _ hs (by omega) (by omega) hS3) rfl ?_
            rintro v57 w57 ⟨rfl, hS3, hc57⟩
            have hS1 := hS1.chg hc57 (by omega)
            have hS2 := hS2.chg hc57 (by omega)
            refine W.neqU rfl rfl rfl ?_
            refine W.eqv (bF (by simp)) ?_
            refine W.nil ?_
            refine At.thenCode ?_
            refine C.condF rfl ?_
            refine C.skip ?_
            refine At.blockNormal ?_
            refine At.thenCode ?_
            refine C.region ?_
            refine W.move rfl rfl ?_
            first | refine W.addI rfl rfl (by omega) rfl ?_ | refine W.addW rfl rfl rfl ?_
            refine W.assign rfl rfl ?_
            refine W.nil ?_
            refine At.thenRound (i + 1, nextI (wordV seed b) i j) (Sub.cons (rfl) (Sub.cons (rfl) (Sub.cons (rfl) (Sub.cons (rfl) (Sub.cons (rfl) (Sub.nil)))))) (show Ext w _ ∧ (i + 1) ≤ 30 ∧ (nextI (wordV seed b) i j) ≤ 64 * (i + 1) ∧ St _ g1 seed a (i + 1) ∧ St _ g2 seed b (nextI (wordV seed b) i j) ∧ St _ g3 seed a (i + 1) from ?_) (show 30 - (i + 1) < 30 - i from ?_)
            · exact ⟨((hXi.news hc53 (fun k hk => Or.inr (by omega))).news hc55 (fun k hk => Or.inr (by omega))).news hc57 (fun k hk => Or.inr (by omega)), by omega, by omega, hS1, hS2, hS3⟩
            · omega
          · refine C.exit ?_
            refine At.thenExit ?_
            refine At.thenExit ?_
            refine At.blockSelf ?_
            refine At.thenCode ?_
            refine C.seq ?_
            refine C.region ?_
            refine W.assign rfl rfl ?_
            refine W.nil ?_
            refine At.thenCode ?_
            refine C.ret ?_
            refine At.ret1 Try.results6 rfl ?_
            first | exact ⟨rfl, Ext.below hX14a⟩ | exact ⟨rfl, Ext.below hXi⟩
theorem pow_mod (k : Nat) (hk : k < 64) : 18446744073709551616 % 2 ^ k = 0 := by
  rw [show 18446744073709551616 = 2 ^ (64 - k) * 2 ^ k by rw [← Nat.pow_add, show 64 - k + k = 64 by omega]]
  exact Nat.mul_mod_left _ _
theorem and_pow (x k : Nat) (hx : x < 18446744073709551616) : x &&& (2 ^ k - 1) = x % 2 ^ k := Nat.and_two_pow_sub_one_eq_mod x k
theorem BeaconPowers_walk (seed : List UInt8) (k times : Int) (w : World) (hs : seed.length = 32) (hk : -9223372036854775808 ≤ k ∧ k ≤ 9223372036854775807) (ht : -9223372036854775808 ≤ times ∧ times ≤ 9223372036854775807) :
    Ct Try.prog 5 #[keyV seed, .int .i64 k, .int .i64 times] w (LawOk w) := by
  refine Ct.enter [(0, keyV seed), (1, .int .i64 k), (2, .int .i64 times)] Try.func5 rfl rfl rfl rfl ?_
  refine C.seq ?_
  refine C.region ?_
  refine W.box (seed.map byteV) rfl rfl rfl ?_
  intro g4 w4 hg4 hX4 hB4
  refine W.assign rfl rfl ?_
  refine W.nil ?_
  refine At.thenCode ?_
  refine C.seq ?_
  refine C.region ?_
  refine W.call Try.call13 rfl (alive_ok _) rfl ?_
  rintro v14 w14 ⟨rfl, hX14⟩
  have hX14a := hX4.ext hX14
  have hB14 := hB4.ext hX14
  refine W.assign rfl rfl ?_
  refine W.nil ?_
  refine At.thenCode ?_
  refine C.seq ?_
  refine C.seq ?_
  refine C.region ?_
  refine W.move rfl rfl ?_
  first | refine W.notD rfl rfl ?_ | refine W.notB rfl rfl ?_
  refine W.move rfl rfl ?_
  refine W.wants rfl rfl rfl rfl ?_
  refine W.move rfl rfl ?_
  refine W.wants rfl rfl rfl rfl ?_
  refine W.lssI rfl rfl rfl ?_
  refine W.pickF rfl rfl rfl ?_
  refine W.move rfl rfl ?_
  first | refine W.splitD (fun g21 => ?_) (fun g21 => ?_) | refine W.splitB (fun g21 => ?_) (fun g21 => ?_)
  · refine W.skips rfl rfl rfl rfl rfl rfl ?_
    refine W.skips rfl rfl rfl rfl rfl rfl ?_
    refine W.pickT rfl rfl rfl ?_
    refine W.move rfl rfl ?_
    refine W.skips rfl rfl rfl rfl rfl rfl ?_
    refine W.skips rfl rfl rfl rfl rfl rfl ?_
    refine W.pickT rfl rfl rfl ?_
    refine W.move rfl rfl ?_
    refine W.skips rfl rfl rfl rfl rfl rfl ?_
    refine W.skips rfl rfl rfl rfl rfl rfl ?_
    refine W.pickT rfl rfl rfl ?_
    refine W.nil ?_
    refine At.thenCode ?_
    refine C.condT rfl ?_
    refine C.seq ?_
    refine C.region ?_
    refine W.move rfl rfl ?_
    refine W.assign rfl rfl ?_
    refine W.nil ?_
    refine At.thenCode ?_
    refine C.ret ?_
    refine At.thenRet ?_
    refine At.ret1 Try.results5 rfl ?_
    first | exact ⟨rfl, Ext.below hX14a⟩ | exact ⟨rfl, Ext.below hXi⟩
  · refine W.wants rfl rfl rfl rfl ?_
    refine W.move rfl rfl ?_
    refine W.wants rfl rfl rfl rfl ?_
    refine W.gtrI rfl rfl rfl ?_
    refine W.pickF rfl rfl rfl ?_
    refine W.move rfl rfl ?_
    first | refine W.splitD (fun g25 => ?_) (fun g25 => ?_) | refine W.splitB (fun g25 => ?_) (fun g25 => ?_)
    · refine W.skips rfl rfl rfl rfl rfl rfl ?_
      refine W.skips rfl rfl rfl rfl rfl rfl ?_
      refine W.pickT rfl rfl rfl ?_
      refine W.move rfl rfl ?_
      refine W.skips rfl rfl rfl rfl rfl rfl ?_
      refine W.skips rfl rfl rfl rfl rfl rfl ?_
      refine W.pickT rfl rfl rfl ?_
      refine W.nil ?_
      refine At.thenCode ?_
      refine C.condT rfl ?_
      refine C.seq ?_
      refine C.region ?_
      refine W.move rfl rfl ?_
      refine W.assign rfl rfl ?_
      refine W.nil ?_
      refine At.thenCode ?_
      refine C.ret ?_
      refine At.thenRet ?_
      refine At.ret1 Try.results5 rfl ?_
      first | exact ⟨rfl, Ext.below hX14a⟩ | exact ⟨rfl, Ext.below hXi⟩
    · refine W.wants rfl rfl rfl rfl ?_
      refine W.move rfl rfl ?_
      refine W.wants rfl rfl rfl rfl ?_
      refine W.lssI rfl rfl rfl ?_
      refine W.pickF rfl rfl rfl ?_
      refine W.move rfl rfl ?_
      first | refine W.splitD (fun g29 => ?_) (fun g29 => ?_) | refine W.splitB (fun g29 => ?_) (fun g29 => ?_)
      · refine W.skips rfl rfl rfl rfl rfl rfl ?_
        refine W.skips rfl rfl rfl rfl rfl rfl ?_
        refine W.pickT rfl rfl rfl ?_
        refine W.nil ?_
        refine At.thenCode ?_
        refine C.condT rfl ?_
        refine C.seq ?_
        refine C.region ?_
        refine W.move rfl rfl ?_
        refine W.assign rfl rfl ?_
        refine W.nil ?_
        refine At.thenCode ?_
        refine C.ret ?_
        refine At.thenRet ?_
        refine At.ret1 Try.results5 rfl ?_
        first | exact ⟨rfl, Ext.below hX14a⟩ | exact ⟨rfl, Ext.below hXi⟩
      · refine W.wants rfl rfl rfl rfl ?_
        refine W.move rfl rfl ?_
        refine W.wants rfl rfl rfl rfl ?_
        refine W.gtrI rfl rfl rfl ?_
        refine W.pickF rfl rfl rfl ?_
        refine W.nil ?_
        refine At.thenCode ?_
        first | refine C.condD rfl (fun c32 => ?_) (fun c32 => ?_) | refine C.cond rfl (fun c32 => ?_) (fun c32 => ?_)
        · refine C.seq ?_
          refine C.region ?_
          refine W.move rfl rfl ?_
          refine W.assign rfl rfl ?_
          refine W.nil ?_
          refine At.thenCode ?_
          refine C.ret ?_
          refine At.thenRet ?_
          refine At.ret1 Try.results5 rfl ?_
          first | exact ⟨rfl, Ext.below hX14a⟩ | exact ⟨rfl, Ext.below hXi⟩
        · refine C.skip ?_
          refine At.thenCode ?_
          refine C.seq ?_
          refine C.region ?_
          refine W.loadA rfl ((hB14).cells (o := 0)) Try.underlying23 rfl (by rw [List.drop_zero, List.length_map, hs]; kernel_rfl) rfl ?_
          refine W.call Try.call14 rfl (Beacon.New_ok seed [112] _ hs) rfl ?_
          rintro v35 w35 ⟨⟨g1, rfl, hg1, hS1⟩, hX35⟩
          have hl1 := hS1.lt
          refine W.assign rfl rfl ?_
          refine W.nil ?_
          refine At.thenCode ?_
          refine C.seq ?_
          refine C.region ?_
          refine W.loadA rfl ((hB14.ext hX35).cells (o := 0)) Try.underlying23 rfl (by rw [List.drop_zero, List.length_map, hs]; kernel_rfl) rfl ?_
          refine W.call Try.call14 rfl (Beacon.New_ok seed [112] _ hs) rfl ?_
          rintro v37 w37 ⟨⟨g2, rfl, hg2, hS2⟩, hX37⟩
          have hs14 := hX14a.size
          have hX37a := (hX14a.ext hX35).ext hX37
          have hS1 := hS1.ext hX37
          obtain ⟨q, hq⟩ : ∃ q : Nat, q = k.toNat := ⟨_, rfl⟩
          obtain ⟨n, hn⟩ : ∃ n : Nat, n = 2 ^ q := ⟨_, rfl⟩
          have hn0 : 0 < n := by rw [hn]; exact Nat.two_pow_pos q
          have hnl : n < 18446744073709551616 := by rw [hn]; exact Nat.pow_lt_pow_right (by decide) (show q < 64 by omega)
          have hnm : 18446744073709551616 % n = 0 := by rw [hn]; exact pow_mod q (by omega)
          refine W.assign rfl rfl ?_
          refine W.nil ?_
          refine At.thenCode ?_
          refine C.seq ?_
          refine C.region ?_
          refine W.move rfl rfl ?_
          first | refine W.convIN (M := 18446744073709551616) rfl Try.underlying3 Try.underlying45 rfl rfl (by omega) rfl ?_ | refine W.convIU (M := 18446744073709551616) rfl Try.underlying3 Try.underlying45 rfl rfl rfl ?_
          refine W.shlU (M := 18446744073709551616) (B := 64) (m := 1) rfl rfl rfl rfl rfl rfl ?_
          refine W.eqv (v' := .int .u64 (n : Int)) (iV (by rw [shlM, Nat.one_mul, ← hq, show min q 64 = q by omega, ← hn, Nat.mod_eq_of_lt hnl])) ?_
          refine W.assign rfl rfl ?_
          refine W.nil ?_
          refine At.thenCode ?_
          refine C.seq ?_
          refine C.seq ?_
          refine C.region ?_
          refine W.assign rfl rfl ?_
          refine W.nil ?_
          refine At.thenCode ?_
          refine C.block ?_
          refine C.loop (X := Nat) (fun x_ => [(2, .int .i64 times), (8, .pointer (some ⟨g1, 0, none⟩)), (9, .pointer (some ⟨g2, 0, none⟩)), (10, .int .u64 (n : Int)), (11, .int .i64 (x_ : Int))]) (fun x_ w1 => Ext w w1 ∧ x_ ≤ 20 ∧ St w1 g1 seed [112] x_ ∧ St w1 g2 seed [112] x_) (fun x_ => 20 - x_) (0) (Sub.cons (rfl) (Sub.cons (rfl) (Sub.cons (rfl) (Sub.cons (rfl) (Sub.cons (rfl) (Sub.nil)))))) ?start1 ?_
          case start1 =>
            show Ext w _ ∧ (0) ≤ 20 ∧ St _ g1 seed [112] (0) ∧ St _ g2 seed [112] (0)
            exact ⟨hX37a, by omega, hS1, hS2⟩
          rintro i w1 hI_
          replace hI_ : Ext w w1 ∧ i ≤ 20 ∧ St w1 g1 seed [112] i ∧ St w1 g2 seed [112] i := hI_
          obtain ⟨hXi, hi, hS1, hS2⟩ := hI_
          refine C.weaken (l' := [(2, .int .i64 times), (8, .pointer (some ⟨g1, 0, none⟩)), (9, .pointer (some ⟨g2, 0, none⟩)), (10, .int .u64 (n : Int)), (11, .int .i64 (i : Int))]) (Sub.cons (rfl) (Sub.cons (rfl) (Sub.cons (rfl) (Sub.cons (rfl) (Sub.cons (rfl) (Sub.nil)))))) ?_
          refine C.seq ?_
          refine C.seq ?_
          refine C.region ?_
          refine W.move rfl rfl ?_
          refine W.move rfl rfl ?_
          refine W.lssI rfl rfl rfl ?_
          refine W.nil ?_
          refine At.thenCode ?_
          first | refine C.condD rfl (fun c43 => ?_) (fun c43 => ?_) | refine C.cond rfl (fun c43 => ?_) (fun c43 => ?_)
          · refine C.skip ?_
            refine At.thenCode ?_
            refine C.seq ?_
            refine C.block ?_
            refine C.seq ?_
            refine C.region ?_
            refine W.move rfl rfl ?_
            refine W.move rfl rfl ?_
            have hwl := wordV_lt seed [112] i
            have hh := next_hit (f := wordV seed [112]) (n := n) (i := i) (j := 0) (by omega) (by decide) rfl (by rw [hnm]; show wordV seed [112] i ≤ _; omega)
            rw [Nat.add_zero] at hh
            refine W.call Try.call18 rfl (Beacon.Next_ok g1 seed [112] i n _ hs (by decide) (by omega) hS1 hnl) rfl ?_
            rintro v49 w49 ⟨rfl, hS1, hc49⟩
            rw [hh.1, hh.2.1]
            rw [hh.2.2] at hS1
            have hS2 := hS2.chg hc49 (by omega)
            refine W.move rfl rfl ?_
            refine W.extract rfl rfl rfl ?_
            refine W.extract rfl rfl rfl ?_
            refine W.assign rfl rfl ?_
            refine W.assign rfl rfl ?_
            refine W.nil ?_
            refine At.thenCode ?_
            refine C.seq ?_
            refine C.region ?_
            refine W.move rfl rfl ?_
            refine W.call Try.call20 rfl (num_ok _ _) rfl ?_
            rintro v53 w53 ⟨rfl, rfl⟩
            refine W.neqI rfl rfl rfl ?_
            refine W.eqv (bF (by simp)) ?_
            refine W.move rfl rfl ?_
            refine W.wants rfl rfl rfl rfl ?_
            refine W.move rfl rfl ?_
            refine W.wants rfl rfl rfl rfl ?_
            refine W.move rfl rfl ?_
            refine W.wants rfl rfl rfl rfl ?_
            refine W.call Try.call16 rfl (Beacon.Word_ok g2 seed [112] i _ hs (by decide) (by omega) hS2) rfl ?_
            rintro v58 w58 ⟨rfl, hS2, hc58⟩
            have hS1 := hS1.chg hc58 (by omega)
            refine W.wants rfl rfl rfl rfl ?_
            refine W.move rfl rfl ?_
            refine W.wants rfl rfl rfl rfl ?_
            refine W.subU (M := 18446744073709551616) (n := 1) rfl rfl rfl rfl rfl ?_
            refine W.wants rfl rfl rfl rfl ?_
            refine W.andU (M := 18446744073709551616) rfl rfl rfl rfl rfl ?_
            refine W.eqv (v' := .int .u64 ((wordV seed [112] i % n : Nat) : Int)) (iV (by
              rw [landM, sub64 (by omega) hnl, hn, and_pow _ _ hwl, Nat.mod_eq_of_lt (Nat.lt_of_le_of_lt (Nat.mod_le _ _) hwl)])) ?_
            refine W.wants rfl rfl rfl rfl ?_
            refine W.neqU rfl rfl rfl ?_
            refine W.eqv (bF (by simp)) ?_
            refine W.pickF rfl rfl rfl ?_
            refine W.nil ?_
            refine At.thenCode ?_
            refine C.condF rfl ?_
            refine C.skip ?_
            refine At.blockNormal ?_
            refine At.thenCode ?_
            refine C.region ?_
            refine W.move rfl rfl ?_
            first | refine W.addI rfl rfl (by omega) rfl ?_ | refine W.addW rfl rfl rfl ?_
            refine W.assign rfl rfl ?_
            refine W.nil ?_
            refine At.thenRound (i + 1) (Sub.cons (rfl) (Sub.cons (rfl) (Sub.cons (rfl) (Sub.cons (rfl) (Sub.cons (rfl) (Sub.nil)))))) (show Ext w _ ∧ (i + 1) ≤ 20 ∧ St _ g1 seed [112] (i + 1) ∧ St _ g2 seed [112] (i + 1) from ?_) (show 20 - (i + 1) < 20 - i from ?_)
            · exact ⟨(hXi.news hc49 (fun k hk => Or.inr (by omega))).news hc58 (fun k hk => Or.inr (by omega)), by omega, hS1, hS2⟩
            · omega
          · refine C.exit ?_
            refine At.thenExit ?_
            refine At.thenExit ?_
            refine At.blockSelf ?_
            refine At.thenCode ?_
            refine C.seq ?_
            refine C.region ?_
            refine W.assign rfl rfl ?_
            refine W.nil ?_
            refine At.thenCode ?_
            refine C.ret ?_
            refine At.ret1 Try.results5 rfl ?_
            first | exact ⟨rfl, Ext.below hX14a⟩ | exact ⟨rfl, Ext.below hXi⟩
theorem BeaconWords_walk (seed name : List UInt8) (idx : Int) (w : World) (hs : seed.length = 32) (hl : name.length ≤ 9223372036854775807) (hb : -9223372036854775808 ≤ idx ∧ idx ≤ 9223372036854775807) :
    Ct Try.prog 4 #[keyV seed, strV name, .int .i64 idx] w (LawOk w) := by
  refine Ct.enter [(0, keyV seed), (1, strV name), (2, .int .i64 idx)] Try.func4 rfl rfl rfl rfl ?_
  have hna : (⟨name.toArray⟩ : ByteArray).size = name.length := by simp [ByteArray.size]
  obtain ⟨I, hI⟩ : ∃ I : Nat, I = idx.toNat := ⟨_, rfl⟩
  obtain ⟨S, hS⟩ : ∃ S, S = sumV seed name (I / 4) := ⟨_, rfl⟩
  have hSl : S.length = 32 := by rw [hS]; exact sumV_length _ _ _
  obtain ⟨N5, hN5⟩ : ∃ N5, N5 = w.heap.size := ⟨_, rfl⟩
  refine C.seq ?_
  refine C.region ?_
  refine W.box (seed.map byteV) rfl rfl rfl ?_
  intro g4 w4 hg4 hX4 hB4
  refine W.assign rfl rfl ?_
  refine W.nil ?_
  refine At.thenCode ?_
  refine C.seq ?_
  refine C.region ?_
  refine W.call Try.call13 rfl (alive_ok _) rfl ?_
  rintro v14 w14 ⟨rfl, hX14⟩
  have hX14a := hX4.ext hX14
  have hB14 := hB4.ext hX14
  refine W.assign rfl rfl ?_
  refine W.nil ?_
  refine At.thenCode ?_
  refine C.seq ?_
  refine C.seq ?_
  refine C.region ?_
  refine W.move rfl rfl ?_
  first | refine W.notD rfl rfl ?_ | refine W.notB rfl rfl ?_
  refine W.move rfl rfl ?_
  refine W.wants rfl rfl rfl rfl ?_
  refine W.move rfl rfl ?_
  refine W.wants rfl rfl rfl rfl ?_
  refine W.lssI rfl rfl rfl ?_
  refine W.pickF rfl rfl rfl ?_
  refine W.move rfl rfl ?_
  first | refine W.splitD (fun g21 => ?_) (fun g21 => ?_) | refine W.splitB (fun g21 => ?_) (fun g21 => ?_)
  · refine W.skips rfl rfl rfl rfl rfl rfl ?_
    refine W.skips rfl rfl rfl rfl rfl rfl ?_
    refine W.pickT rfl rfl rfl ?_
    refine W.move rfl rfl ?_
    refine W.skips rfl rfl rfl rfl rfl rfl ?_
    refine W.skips rfl rfl rfl rfl rfl rfl ?_
    refine W.skips rfl rfl rfl rfl rfl rfl ?_
    refine W.pickT rfl rfl rfl ?_
    refine W.nil ?_
    refine At.thenCode ?_
    refine C.condT rfl ?_
    refine C.seq ?_
    refine C.region ?_
    refine W.move rfl rfl ?_
    refine W.assign rfl rfl ?_
    refine W.nil ?_
    refine At.thenCode ?_
    refine C.ret ?_
    refine At.thenRet ?_
    refine At.ret1 Try.results4 rfl ?_
    first | exact ⟨rfl, Ext.below hX14a⟩ | exact ⟨rfl, Ext.below hX6⟩
  · refine W.wants rfl rfl rfl rfl ?_
    refine W.move rfl rfl ?_
    refine W.wants rfl rfl rfl rfl ?_
    refine W.gtrI rfl rfl rfl ?_
    refine W.pickF rfl rfl rfl ?_
    refine W.move rfl rfl ?_
    first | refine W.splitD (fun g25 => ?_) (fun g25 => ?_) | refine W.splitB (fun g25 => ?_) (fun g25 => ?_)
    · refine W.skips rfl rfl rfl rfl rfl rfl ?_
      refine W.skips rfl rfl rfl rfl rfl rfl ?_
      refine W.skips rfl rfl rfl rfl rfl rfl ?_
      refine W.pickT rfl rfl rfl ?_
      refine W.nil ?_
      refine At.thenCode ?_
      refine C.condT rfl ?_
      refine C.seq ?_
      refine C.region ?_
      refine W.move rfl rfl ?_
      refine W.assign rfl rfl ?_
      refine W.nil ?_
      refine At.thenCode ?_
      refine C.ret ?_
      refine At.thenRet ?_
      refine At.ret1 Try.results4 rfl ?_
      first | exact ⟨rfl, Ext.below hX14a⟩ | exact ⟨rfl, Ext.below hX6⟩
    · refine W.wants rfl rfl rfl rfl ?_
      refine W.move rfl rfl ?_
      refine W.wants rfl rfl rfl rfl ?_
      refine W.lenStr rfl Try.underlying9 rfl ?_
      refine W.wants rfl rfl rfl rfl ?_
      refine W.gtrI rfl rfl rfl ?_
      refine W.pickF rfl rfl rfl ?_
      refine W.nil ?_
      refine At.thenCode ?_
      first | refine C.condD rfl (fun c29 => ?_) (fun c29 => ?_) | refine C.cond rfl (fun c29 => ?_) (fun c29 => ?_)
      · refine C.seq ?_
        refine C.region ?_
        refine W.move rfl rfl ?_
        refine W.assign rfl rfl ?_
        refine W.nil ?_
        refine At.thenCode ?_
        refine C.ret ?_
        refine At.thenRet ?_
        refine At.ret1 Try.results4 rfl ?_
        first | exact ⟨rfl, Ext.below hX14a⟩ | exact ⟨rfl, Ext.below hX6⟩
      · refine C.skip ?_
        refine At.thenCode ?_
        refine C.seq ?_
        refine C.region ?_
        refine W.loadA rfl ((hB14).cells (o := 0)) Try.underlying23 rfl (by rw [List.drop_zero, List.length_map, hs]; kernel_rfl) rfl ?_
        refine W.move rfl rfl ?_
        refine W.call Try.call14 rfl (Beacon.New_ok seed name _ hs) rfl ?_
        rintro v33 w33 ⟨⟨g1, rfl, hg1, hS1⟩, hX33⟩
        have hl1 := hS1.lt
        have hlt4 := hB14.lt
        have hs14 := hX14a.size
        have hX33a := hX14a.ext hX33
        have hB33 := hB14.ext hX33
        refine W.assign rfl rfl ?_
        refine W.nil ?_
        refine At.thenCode ?_
        refine C.seq ?_
        refine C.region ?_
        refine W.assign rfl rfl ?_
        refine W.nil ?_
        refine At.thenCode ?_
        refine C.seq ?_
        refine C.seq ?_
        refine C.region ?_
        refine W.assign rfl rfl ?_
        refine W.nil ?_
        refine At.thenCode ?_
        refine C.block ?_
        refine C.loop (X := Nat × Nat) (fun x_ => [(1, strV name), (2, .int .i64 idx), (3, .pointer (some ⟨g4, 0, none⟩)), (8, .pointer (some ⟨g1, 0, none⟩)), (9, .int .u64 (x_.2 : Int)), (10, .int .i64 (x_.1 : Int))]) (fun x_ w1 => Ext w w1 ∧ Bk w1 g4 (seed.map byteV) ∧ x_.1 ≤ I + 1 ∧ (0 < x_.1 → x_.2 = wordV seed name (x_.1 - 1)) ∧ St w1 g1 seed name x_.1) (fun x_ => I + 1 - x_.1) (0, 0) (Sub.cons (rfl) (Sub.cons (rfl) (Sub.cons (rfl) (Sub.cons (rfl) (Sub.cons (rfl) (Sub.cons (rfl) (Sub.nil))))))) ?start1 ?_
        case start1 =>
          show Ext w _ ∧ Bk _ g4 (seed.map byteV) ∧ (0) ≤ I + 1 ∧ (0 < (0) → (0) = wordV seed name ((0) - 1)) ∧ St _ g1 seed name (0)
          exact ⟨hX33a, hB33, by omega, fun h => by omega, hS1⟩
        rintro ⟨k, x⟩ w1 hI_
        replace hI_ : Ext w w1 ∧ Bk w1 g4 (seed.map byteV) ∧ k ≤ I + 1 ∧ (0 < k → x = wordV seed name (k - 1)) ∧ St w1 g1 seed name k := hI_
        obtain ⟨hXi, hBi, hk, hx, hS1⟩ := hI_
        refine C.weaken (l' := [(1, strV name), (2, .int .i64 idx), (3, .pointer (some ⟨g4, 0, none⟩)), (8, .pointer (some ⟨g1, 0, none⟩)), (9, .int .u64 (x : Int)), (10, .int .i64 (k : Int))]) (Sub.cons (rfl) (Sub.cons (rfl) (Sub.cons (rfl) (Sub.cons (rfl) (Sub.cons (rfl) (Sub.cons (rfl) (Sub.nil))))))) ?_
        refine C.seq ?_
        refine C.seq ?_
        refine C.region ?_
        refine W.move rfl rfl ?_
        refine W.move rfl rfl ?_
        refine W.leqI rfl rfl rfl ?_
        refine W.nil ?_
        refine At.thenCode ?_
        first | refine C.condD rfl (fun c36 => ?_) (fun c36 => ?_) | refine C.cond rfl (fun c36 => ?_) (fun c36 => ?_)
        · refine C.skip ?_
          refine At.thenCode ?_
          refine C.seq ?_
          refine C.block ?_
          refine C.region ?_
          refine W.move rfl rfl ?_
          refine W.call Try.call16 rfl (Beacon.Word_ok g1 seed name k _ hs (by omega) (by omega) hS1) rfl ?_
          rintro v40 w40 ⟨rfl, hS1, hc40⟩
          refine W.assign rfl rfl ?_
          refine W.nil ?_
          refine At.blockNormal ?_
          refine At.thenCode ?_
          refine C.region ?_
          refine W.move rfl rfl ?_
          first | refine W.addI rfl rfl (by omega) rfl ?_ | refine W.addW rfl rfl rfl ?_
          refine W.assign rfl rfl ?_
          refine W.nil ?_
          refine At.thenRound (k + 1, wordV seed name k) (Sub.cons (rfl) (Sub.cons (rfl) (Sub.cons (rfl) (Sub.cons (rfl) (Sub.cons (rfl) (Sub.cons (rfl) (Sub.nil))))))) (show Ext w _ ∧ Bk _ g4 (seed.map byteV) ∧ (k + 1) ≤ I + 1 ∧ (0 < (k + 1) → (wordV seed name k) = wordV seed name ((k + 1) - 1)) ∧ St _ g1 seed name (k + 1) from ?_) (show I + 1 - (k + 1) < I + 1 - k from ?_)
          · exact ⟨hXi.news hc40 (fun k hk => Or.inr (by omega)), hBi.chg hc40 (by omega), by omega, fun _ => rfl, hS1⟩
          · omega
        · refine C.exit ?_
          refine At.thenExit ?_
          refine At.thenExit ?_
          refine At.blockSelf ?_
          refine At.thenCode ?_
          refine C.seq ?_
          refine C.regionAny 10 ((fun v w => v = .slice (some ⟨g4, 0, none⟩) 32 32) :: (fun v w => v = strV name) :: (fun v w => ∃ q c, v = .slice q name.length c ∧ Bs w q c name) :: (fun v w => v = .int .i64 idx) :: (fun v w => v = .int .i64 ((I / 4 : Nat) : Int)) :: (fun v w => v = .int .u64 ((I / 4 : Nat) : Int)) :: (fun v w => ∃ q c, v = .slice q (be64 (I / 4)).length c ∧ Bs w q c (be64 (I / 4))) :: (fun v w => ∃ q, v = .slice (some q) 3 3 ∧ Bss w (some q) 3 [seed, name, be64 (I / 4)]) :: (fun v w => v = keyV S) :: (fun v w => ∃ g, v = .pointer (some ⟨g, 0, none⟩) ∧ Bk w g (List.replicate 32 (byteV 0)) ∧ N5 ≤ g) :: []) [(1, strV name), (2, .int .i64 idx), (3, .pointer (some ⟨g4, 0, none⟩)), (9, .int .u64 (x : Int))] [] (Sub.cons (rfl) (Sub.cons (rfl) (Sub.cons (rfl) (Sub.cons (rfl) (Sub.nil))))) (Sub.nil) (Sub.cons (rfl) (Sub.cons (rfl) (Sub.cons (rfl) (Sub.cons (rfl) (Sub.nil))))) (by kernel_rfl) rfl rfl rfl (And.intro (fun _ _ _ h _ => h) (And.intro (fun _ _ _ h _ => h) (And.intro (fun _ _ _ ⟨q, c, hv, h⟩ x => ⟨q, c, hv, h.ext x⟩) (And.intro (fun _ _ _ h _ => h) (And.intro (fun _ _ _ h _ => h) (And.intro (fun _ _ _ h _ => h) (And.intro (fun _ _ _ ⟨q, c, hv, h⟩ x => ⟨q, c, hv, h.ext x⟩) (And.intro (fun _ _ _ ⟨q, hv, h⟩ x => ⟨q, hv, h.ext x⟩) (And.intro (fun _ _ _ h _ => h) (And.intro (fun _ _ _ ⟨q, hv, h, h2⟩ x => ⟨q, hv, h.ext x, h2⟩) (trivial))))))))))) ?_ ?_
          · refine And.intro ?_ ?_
            · intro L_ w5 hX_ hs_ hf_ hd_
              refine W.step [(3, _)] (Sub.cons (hs_ _ _ rfl) (Sub.refl _)) ?_
              refine W.sliceA X8 Try.underlying23 rfl rfl ?_
              refine W.nil ?_
              exact At.step (Ext.refl _) rfl
            refine And.intro ?_ ?_
            · intro L_ w5 hX_ hs_ hf_ hd_
              refine W.step [(1, _)] (Sub.cons (hs_ _ _ rfl) (Sub.refl _)) ?_
              refine W.move rfl rfl ?_
              refine W.nil ?_
              exact At.step (Ext.refl _) rfl
            refine And.intro ?_ ?_
            · intro L_ w5 hX_ hs_ hf_ hd_
              obtain ⟨v1, e1, r1⟩ := hd_ 1 rfl
              obtain rfl : (strV name : Value) = v1 := Eq.symm r1
              refine W.step [(42, _)] (Sub.cons e1 (Sub.refl _)) ?_
              refine W.strBytes Try.underlying9 Try.underlying40 Try.underlying5 rfl rfl ?_
              intro g43 c43 w43 hg43 hX43 hS43
              refine W.nil ?_
              exact At.step hX43 ⟨_, _, rfl, hS43⟩
            refine And.intro ?_ ?_
            · intro L_ w5 hX_ hs_ hf_ hd_
              refine W.step [(2, _)] (Sub.cons (hs_ _ _ rfl) (Sub.refl _)) ?_
              refine W.move rfl rfl ?_
              refine W.nil ?_
              exact At.step (Ext.refl _) rfl
            refine And.intro ?_ ?_
            · intro L_ w5 hX_ hs_ hf_ hd_
              obtain ⟨v3, e3, r3⟩ := hd_ 3 rfl
              obtain rfl : (.int .i64 idx : Value) = v3 := Eq.symm r3
              refine W.step [(44, _)] (Sub.cons e3 (Sub.refl _)) ?_
              first | refine W.quoI rfl rfl (by omega) rfl ?_ | refine W.quoW rfl rfl (by omega) rfl ?_
              refine W.eqv (v' := .int .i64 ((I / 4 : Nat) : Int)) (iV (by omega)) ?_
              refine W.nil ?_
              exact At.step (Ext.refl _) rfl
            refine And.intro ?_ ?_
            · intro L_ w5 hX_ hs_ hf_ hd_
              obtain ⟨v4, e4, r4⟩ := hd_ 4 rfl
              obtain rfl : (.int .i64 ((I / 4 : Nat) : Int) : Value) = v4 := Eq.symm r4
              refine W.step [(45, _)] (Sub.cons e4 (Sub.refl _)) ?_
              first | refine W.convIN (M := 18446744073709551616) rfl Try.underlying3 Try.underlying30 rfl rfl (by omega) rfl ?_ | refine W.convIU (M := 18446744073709551616) rfl Try.underlying3 Try.underlying30 rfl rfl rfl ?_
              refine W.eqv (v' := .int .u64 ((I / 4 : Nat) : Int)) (iV (by omega)) ?_
              refine W.nil ?_
              exact At.step (Ext.refl _) rfl
            refine And.intro ?_ ?_
            · intro L_ w5 hX_ hs_ hf_ hd_
              obtain ⟨v5, e5, r5⟩ := hd_ 5 rfl
              obtain rfl : (.int .u64 ((I / 4 : Nat) : Int) : Value) = v5 := Eq.symm r5
              refine W.step [(46, _)] (Sub.cons e5 (Sub.refl _)) ?_
              refine W.call Try.call22 rfl (Words.RPut64_ok none 0 [] (I / 4) _ (Sl.none _ 1) (by decide)) rfl ?_
              rintro v47 w47 ⟨ho47, hX47⟩
              rw [List.nil_append] at ho47
              obtain ⟨a47, c47, rfl, hS47, _⟩ := ownsRow_form ho47
              refine W.nil ?_
              exact At.step hX47 ⟨_, _, rfl, hS47⟩
            refine And.intro ?_ ?_
            · intro L_ w5 hX_ hs_ hf_ hd_
              obtain ⟨v0, e0, r0⟩ := hd_ 0 rfl
              obtain rfl : (.slice (some ⟨g4, 0, none⟩) 32 32 : Value) = v0 := Eq.symm r0
              obtain ⟨v2, e2, r2⟩ := hd_ 2 rfl
              obtain ⟨q2, c2, rfl, hS2⟩ := r2
              obtain ⟨v6, e6, r6⟩ := hd_ 6 rfl
              obtain ⟨q6, c6, rfl, hS6⟩ := r6
              refine W.step [(41, _), (43, _), (47, _)] (Sub.cons e0 (Sub.cons e2 (Sub.cons e6 (Sub.refl _)))) ?_
              have hS4 : Bs w5 (some ⟨g4, 0, none⟩) 32 seed := St.sub (hBi.ext hX_) (by rw [List.drop_zero, List.take_of_length_le (by rw [List.length_map, hs]; exact Nat.le_refl _)]) hs
              refine W.litV [.slice (some ⟨g4, 0, none⟩) 32 32, .slice q2 name.length c2, .slice q6 (be64 (I / 4)).length c6] EB Try.underlying42 rfl rfl (fun u hu => by simp at hu; rcases hu with rfl | rfl | rfl <;> rfl) rfl rfl rfl ?_
              intro g48 w48 hg48 hX48 ho48 hs48
              have hs48 : Sl w48 (some ⟨g48, 0, none⟩) 3 3 1 [.slice (some ⟨g4, 0, none⟩) 32 32, .slice q2 name.length c2, .slice q6 (be64 (I / 4)).length c6] := hs48
              rw [← hs] at hs48
              have hB48 := bss3 hs48 (by rw [hs]; exact hS4.ext hX48) (hS2.ext hX48) (hS6.ext hX48)
              refine W.nil ?_
              exact At.step hX48 ⟨_, rfl, hB48⟩
            refine And.intro ?_ ?_
            · intro L_ w5 hX_ hs_ hf_ hd_
              obtain ⟨v7, e7, r7⟩ := hd_ 7 rfl
              obtain ⟨q7, rfl, hS7⟩ := r7
              refine W.step [(48, _)] (Sub.cons e7 (Sub.refl _)) ?_
              refine W.call Try.call21 rfl (RSha.RParts_ok _ _ [seed, name, be64 (I / 4)] _ hS7 (by simp) (by rw [parts3_length, be64_length]; omega)) rfl ?_
              rintro v49 w49 ⟨rfl, hX49⟩
              refine W.eqv (v' := keyV S) (by rw [hS]; rfl) ?_
              refine W.nil ?_
              exact At.step hX49 rfl
            refine And.intro ?_ ?_
            · intro L_ w5 hX_ hs_ hf_ hd_
              refine W.step [] (Sub.refl _) ?_
              refine W.alloc (z := .agg (List.replicate 32 (byteV 0)).toArray) (List.replicate 32 (byteV 0)) (by kernel_rfl) rfl rfl ?_
              intro g11 w11 hg11 hX11a hB11
              refine W.nil ?_
              exact At.step hX11a ⟨g11, rfl, hB11, by have := hX_.size; have := hXi.size; omega⟩
            exact trivial
          · intro L_ w5 hX10 hs_ hv_
            obtain ⟨v9, e9, r9⟩ := hv_ 9 (by decide)
            obtain ⟨g11, rfl, hB11, hg11⟩ := r9
            obtain ⟨v8, e8, r8⟩ := hv_ 8 (by decide)
            obtain rfl : (keyV S : Value) = v8 := Eq.symm r8
            refine W.weaken (l' := [(11, _), (49, _), (1, _), (2, _), (3, _), (9, _)]) (Sub.cons e9 (Sub.cons e8 (Sub.cons (hs_ _ _ rfl) (Sub.cons (hs_ _ _ rfl) (Sub.cons (hs_ _ _ rfl) (Sub.cons (hs_ _ _ rfl) (Sub.nil))))))) ?_
            refine W.storeA (S.map byteV) rfl rfl hB11 (by rw [List.length_map, hSl]; rfl) (by rw [List.length_map, hSl]; kernel_rfl) (bytes_oneCell _) ?_
            intro w6 hc6 hB6
            have hX6 : Ext w w6 := (hXi.ext hX10).news hc6 (fun k hk => Or.inr (by omega))
            refine W.nil ?_
            refine At.thenCode ?_
            refine C.seq ?_
            refine C.region ?_
            refine W.sliceA X8 Try.underlying23 rfl rfl ?_
            refine W.move rfl rfl ?_
            first | refine W.remI rfl rfl (by omega) rfl ?_ | refine W.remW rfl rfl (by omega) rfl ?_
            refine W.eqv (v' := .int .i64 ((I % 4 : Nat) : Int)) (iV (by omega)) ?_
            first | refine W.mulI rfl rfl (by omega) rfl ?_ | refine W.mulW rfl rfl rfl ?_
            refine W.eqv (v' := .int .i64 ((8 * (I % 4) : Nat) : Int)) (iV (by omega)) ?_
            have hS5 : Bs w6 (some ⟨g11, 0, none⟩) 32 S := St.sub hB6 (by rw [List.drop_zero, List.take_of_length_le (by rw [List.length_map]; omega)]) hSl
            have hg := Words.RGet64_ok (some ⟨g11, 0, none⟩) 32 S ((8 * (I % 4) : Nat) : Int) w6 hS5 (by omega) (by omega)
            rw [hSl] at hg
            refine W.call Try.call23 rfl hg rfl ?_
            rintro v55 w55 ⟨rfl, rfl⟩
            refine W.eqv (v' := .tuple #[.int .u64 (wordV seed name I : Int), .int .i64 (getE S ((8 * (I % 4) : Nat) : Int) 8)]) (by rw [wordV, ← hS]) ?_
            refine W.move rfl rfl ?_
            refine W.extract rfl rfl rfl ?_
            refine W.extract rfl rfl rfl ?_
            refine W.assign rfl rfl ?_
            refine W.assign rfl rfl ?_
            refine W.nil ?_
            refine At.thenCode ?_
            refine C.seq ?_
            refine C.region ?_
            refine W.move rfl rfl ?_
            refine W.move rfl rfl ?_
            refine W.eqlU rfl rfl rfl ?_
            refine W.eqv (bT (by
            have h1 : k - 1 = I := by omega
            rw [h1] at hx
            exact hx (by omega))) ?_
            refine W.assign rfl rfl ?_
            refine W.nil ?_
            refine At.thenCode ?_
            refine C.ret ?_
            refine At.ret1 Try.results4 rfl ?_
            first | exact ⟨rfl, Ext.below hX14a⟩ | exact ⟨rfl, Ext.below hX6⟩
theorem get_u64 {xs : List Nat} {i : Nat} (h : i < xs.length) : (xs.map fun n : Nat => (.int .u64 (n : Int) : Value))[i]? = some (.int .u64 (((xs[i]'h) : Nat) : Int)) := by rw [List.getElem?_map, List.getElem?_eq_getElem h]; rfl
theorem BeaconDraws_walk (seed name : List UInt8) (ao : Option Addr) (c : Nat) (xs : List Nat) (w : World) (hs : seed.length = 32) (hl : name.length ≤ 9223372036854775807) (hS : Sl w ao xs.length c 1 (xs.map fun n : Nat => .int .u64 (n : Int))) (hlx : xs.length ≤ 9223372036854775807) (hbx : ∀ x ∈ xs, x < 18446744073709551616) :
    Ct Try.prog 3 #[keyV seed, strV name, .slice ao xs.length c] w (LawOk w) := by
  refine Ct.enter [(0, keyV seed), (1, strV name), (2, .slice ao xs.length c)] Try.func3 rfl rfl rfl rfl ?_
  have hna : (⟨name.toArray⟩ : ByteArray).size = name.length := by simp [ByteArray.size]
  refine C.seq ?_
  refine C.region ?_
  refine W.box (seed.map byteV) rfl rfl rfl ?_
  intro g4 w4 hg4 hX4 hB4
  refine W.assign rfl rfl ?_
  refine W.nil ?_
  refine At.thenCode ?_
  refine C.seq ?_
  refine C.region ?_
  refine W.call Try.call13 rfl (alive_ok _) rfl ?_
  rintro v16 w16 ⟨rfl, hX16⟩
  have hX14a := hX4.ext hX16
  have hB14 := hB4.ext hX16
  refine W.assign rfl rfl ?_
  refine W.nil ?_
  refine At.thenCode ?_
  refine C.seq ?_
  refine C.seq ?_
  refine C.region ?_
  refine W.move rfl rfl ?_
  first | refine W.notD rfl rfl ?_ | refine W.notB rfl rfl ?_
  refine W.move rfl rfl ?_
  refine W.wants rfl rfl rfl rfl ?_
  refine W.move rfl rfl ?_
  refine W.wants rfl rfl rfl rfl ?_
  refine W.lenS rfl Try.underlying24 rfl ?_
  refine W.wants rfl rfl rfl rfl ?_
  refine W.gtrI rfl rfl rfl ?_
  refine W.pickF rfl rfl rfl ?_
  refine W.move rfl rfl ?_
  first | refine W.splitD (fun g24 => ?_) (fun g24 => ?_) | refine W.splitB (fun g24 => ?_) (fun g24 => ?_)
  · refine W.skips rfl rfl rfl rfl rfl rfl ?_
    refine W.skips rfl rfl rfl rfl rfl rfl ?_
    refine W.skips rfl rfl rfl rfl rfl rfl ?_
    refine W.pickT rfl rfl rfl ?_
    refine W.nil ?_
    refine At.thenCode ?_
    refine C.condT rfl ?_
    refine C.seq ?_
    refine C.region ?_
    refine W.move rfl rfl ?_
    refine W.assign rfl rfl ?_
    refine W.nil ?_
    refine At.thenCode ?_
    refine C.ret ?_
    refine At.thenRet ?_
    refine At.ret1 Try.results3 rfl ?_
    first | exact ⟨rfl, Ext.below hX14a⟩ | exact ⟨rfl, Ext.below hXi⟩
  · refine W.wants rfl rfl rfl rfl ?_
    refine W.move rfl rfl ?_
    refine W.wants rfl rfl rfl rfl ?_
    refine W.lenStr rfl Try.underlying9 rfl ?_
    refine W.wants rfl rfl rfl rfl ?_
    refine W.gtrI rfl rfl rfl ?_
    refine W.pickF rfl rfl rfl ?_
    refine W.nil ?_
    refine At.thenCode ?_
    first | refine C.condD rfl (fun c28 => ?_) (fun c28 => ?_) | refine C.cond rfl (fun c28 => ?_) (fun c28 => ?_)
    · refine C.seq ?_
      refine C.region ?_
      refine W.move rfl rfl ?_
      refine W.assign rfl rfl ?_
      refine W.nil ?_
      refine At.thenCode ?_
      refine C.ret ?_
      refine At.thenRet ?_
      refine At.ret1 Try.results3 rfl ?_
      first | exact ⟨rfl, Ext.below hX14a⟩ | exact ⟨rfl, Ext.below hXi⟩
    · refine C.skip ?_
      refine At.thenCode ?_
      refine C.seq ?_
      refine C.region ?_
      refine W.loadA rfl ((hB14).cells (o := 0)) Try.underlying23 rfl (by rw [List.drop_zero, List.length_map, hs]; kernel_rfl) rfl ?_
      refine W.move rfl rfl ?_
      refine W.call Try.call14 rfl (Beacon.New_ok seed name _ hs) rfl ?_
      rintro v32 w32 ⟨⟨g1, rfl, hg1, hS1⟩, hX32⟩
      have hl1 := hS1.lt
      refine W.assign rfl rfl ?_
      refine W.nil ?_
      refine At.thenCode ?_
      refine C.seq ?_
      refine C.region ?_
      refine W.loadA rfl ((hB14.ext hX32).cells (o := 0)) Try.underlying23 rfl (by rw [List.drop_zero, List.length_map, hs]; kernel_rfl) rfl ?_
      refine W.move rfl rfl ?_
      refine W.addStr (a := name) (b := [120]) rfl rfl (by simp; omega) rfl ?_
      obtain ⟨nx, hnx⟩ : ∃ nx, nx = name ++ [120] := ⟨_, rfl⟩
      have hnl : nx.length ≤ 100000 := by rw [hnx]; simp; omega
      rw [← hnx]
      refine W.call Try.call14 rfl (Beacon.New_ok seed nx _ hs) rfl ?_
      rintro v36 w36 ⟨⟨g2, rfl, hg2, hS2⟩, hX36⟩
      have hl2 := hS2.lt
      refine W.assign rfl rfl ?_
      refine W.nil ?_
      refine At.thenCode ?_
      refine C.seq ?_
      refine C.region ?_
      refine W.loadA rfl (((hB14.ext hX32).ext hX36).cells (o := 0)) Try.underlying23 rfl (by rw [List.drop_zero, List.length_map, hs]; kernel_rfl) rfl ?_
      refine W.move rfl rfl ?_
      refine W.call Try.call15 rfl (Beacon.RNew_ok seed name _ hs) rfl ?_
      rintro v39 w39 ⟨⟨g3, rfl, hg3, hS3⟩, hX39⟩
      have hs14 := hX14a.size
      have hX39a := ((hX14a.ext hX32).ext hX36).ext hX39
      have hS1 := (hS1.ext hX36).ext hX39
      have hS2 := hS2.ext hX39
      refine W.assign rfl rfl ?_
      refine W.nil ?_
      refine At.thenCode ?_
      refine C.seq ?_
      refine C.seq ?_
      refine C.region ?_
      refine W.assign rfl rfl ?_
      refine W.nil ?_
      refine At.thenCode ?_
      refine C.block ?_
      refine C.loop (X := Nat × Nat) (fun x_ => [(2, .slice ao xs.length c), (8, .pointer (some ⟨g1, 0, none⟩)), (9, .pointer (some ⟨g2, 0, none⟩)), (10, .pointer (some ⟨g3, 0, none⟩)), (11, .int .i64 (x_.1 : Int))]) (fun x_ w1 => Ext w w1 ∧ x_.1 ≤ xs.length ∧ x_.2 ≤ 64 * x_.1 ∧ St w1 g1 seed name x_.2 ∧ St w1 g2 seed nx x_.1 ∧ RSt w1 g3 seed name x_.2) (fun x_ => xs.length - x_.1) (0, 0) (Sub.cons (rfl) (Sub.cons (rfl) (Sub.cons (rfl) (Sub.cons (rfl) (Sub.cons (rfl) (Sub.nil)))))) ?start1 ?_
      case start1 =>
        show Ext w _ ∧ (0) ≤ xs.length ∧ (0) ≤ 64 * (0) ∧ St _ g1 seed name (0) ∧ St _ g2 seed nx (0) ∧ RSt _ g3 seed name (0)
        exact ⟨hX39a, by omega, by omega, hS1, hS2, hS3⟩
      rintro ⟨i, a⟩ w1 hI_
      replace hI_ : Ext w w1 ∧ i ≤ xs.length ∧ a ≤ 64 * i ∧ St w1 g1 seed name a ∧ St w1 g2 seed nx i ∧ RSt w1 g3 seed name a := hI_
      obtain ⟨hXi, hi, ha, hS1, hS2, hS3⟩ := hI_
      refine C.weaken (l' := [(2, .slice ao xs.length c), (8, .pointer (some ⟨g1, 0, none⟩)), (9, .pointer (some ⟨g2, 0, none⟩)), (10, .pointer (some ⟨g3, 0, none⟩)), (11, .int .i64 (i : Int))]) (Sub.cons (rfl) (Sub.cons (rfl) (Sub.cons (rfl) (Sub.cons (rfl) (Sub.cons (rfl) (Sub.nil)))))) ?_
      refine C.seq ?_
      refine C.seq ?_
      refine C.region ?_
      refine W.move rfl rfl ?_
      refine W.move rfl rfl ?_
      refine W.lenS rfl Try.underlying24 rfl ?_
      refine W.lssI rfl rfl rfl ?_
      refine W.nil ?_
      refine At.thenCode ?_
      first | refine C.condD rfl (fun c43 => ?_) (fun c43 => ?_) | refine C.cond rfl (fun c43 => ?_) (fun c43 => ?_)
      · refine C.skip ?_
        refine At.thenCode ?_
        refine C.seq ?_
        refine C.block ?_
        refine C.seq ?_
        refine C.region ?_
        refine W.move rfl rfl ?_
        refine W.call Try.call16 rfl (Beacon.Word_ok g2 seed nx i _ hs (by omega) (by omega) hS2) rfl ?_
        rintro v47 w47 ⟨rfl, hS2, hc47⟩
        have hS1 := hS1.chg hc47 (by omega)
        have hS3 := hS3.chg hc47 (by omega)
        have hX47 := hXi.news hc47 (fun k hk => Or.inr (by omega))
        have hlt : i < xs.length := by omega
        obtain ⟨n, hn⟩ : ∃ n : Nat, n = xs[i]'hlt := ⟨_, rfl⟩
        have hnb : n < 18446744073709551616 := by rw [hn]; exact hbx _ (List.getElem_mem hlt)
        have hgn : (xs.map fun n : Nat => (.int .u64 (n : Int) : Value))[i]? = some (.int .u64 (n : Int)) := by rw [hn]; exact get_u64 hlt
        refine W.nil ?_
        refine At.thenCode ?_
        refine C.seq ?_
        refine C.seq ?_
        refine C.region ?_
        refine W.move rfl rfl ?_
        refine W.move rfl rfl ?_
        refine W.idx (v := .int .u64 ((n : Nat) : Int)) X64 Try.underlying24 Try.underlying30 rfl rfl (hS.ext hX47) rfl (by omega) ?_ rfl rfl ?_
        · rw [Int.toNat_natCast]
          exact hgn
        intro p50
        -- read with the address
        refine W.remU (n := 5) rfl rfl (by omega) rfl ?_
        refine W.eqlU (n := 4) rfl rfl rfl ?_
        refine W.nil ?_
        refine At.thenCode ?_
        first | refine C.condD rfl (fun c53 => ?_) (fun c53 => ?_) | refine C.cond rfl (fun c53 => ?_) (fun c53 => ?_)
        · refine C.seq ?_
          refine C.seq ?_
          refine C.region ?_
          refine W.move rfl rfl ?_
          refine W.call Try.call16 rfl (Beacon.Word_ok g1 seed name a _ hs (by omega) (by omega) hS1) rfl ?_
          rintro v55 w55 ⟨rfl, hS1, hc55⟩
          have hS2 := hS2.chg hc55 (by omega)
          have hS3 := hS3.chg hc55 (by omega)
          have hX55 := hX47.news hc55 (fun k hk => Or.inr (by omega))
          refine W.move rfl rfl ?_
          refine W.call Try.call17 rfl (Beacon.RWord_ok g3 seed name a _ hs (by omega) (by omega) hS3) rfl ?_
          rintro v57 w57 ⟨rfl, hS3, hc57⟩
          have hS1 := hS1.chg hc57 (by omega)
          have hS2 := hS2.chg hc57 (by omega)
          have hX57 := hX55.news hc57 (fun k hk => Or.inr (by omega))
          refine W.neqU rfl rfl rfl ?_
          refine W.eqv (bF (by simp)) ?_
          refine W.nil ?_
          refine At.thenCode ?_
          refine C.condF rfl ?_
          refine C.skip ?_
          refine At.thenCode ?_
          refine C.exit ?_
          refine At.thenExit ?_
          refine At.blockSelf ?_
          refine At.thenCode ?_
          refine C.region ?_
          refine W.move rfl rfl ?_
          first | refine W.addI rfl rfl (by omega) rfl ?_ | refine W.addW rfl rfl rfl ?_
          refine W.assign rfl rfl ?_
          refine W.nil ?_
          refine At.thenRound (i + 1, a + 1) (Sub.cons (rfl) (Sub.cons (rfl) (Sub.cons (rfl) (Sub.cons (rfl) (Sub.cons (rfl) (Sub.nil)))))) (show Ext w _ ∧ (i + 1) ≤ xs.length ∧ (a + 1) ≤ 64 * (i + 1) ∧ St _ g1 seed name (a + 1) ∧ St _ g2 seed nx (i + 1) ∧ RSt _ g3 seed name (a + 1) from ?_) (show xs.length - (i + 1) < xs.length - i from ?_)
          · exact ⟨hX57, by omega, by omega, hS1, hS2, hS3⟩
          · omega
        · refine C.skip ?_
          refine At.thenCode ?_
          refine C.seq ?_
          refine C.region ?_
          refine W.move rfl rfl ?_
          refine W.move rfl rfl ?_
          refine W.move rfl rfl ?_
          refine W.idx (v := .int .u64 ((n : Nat) : Int)) X64 Try.underlying24 Try.underlying30 rfl rfl (hS.ext hX47) rfl (by omega) ?_ rfl rfl ?_
          · rw [Int.toNat_natCast]
            exact hgn
          intro p63
          -- read with the address
          obtain ⟨X, hX⟩ : ∃ X, X = nextX (wordV seed name) n a := ⟨_, rfl⟩
          obtain ⟨E, hE⟩ : ∃ E, E = nextE (wordV seed name) n a := ⟨_, rfl⟩
          obtain ⟨J, hJ⟩ : ∃ J, J = nextI (wordV seed name) n a := ⟨_, rfl⟩
          have hJl := nextI_le (wordV seed name) n a
          have hEX : E = 0 → X < n := fun h => by rw [hX]; exact nextX_lt (by rw [← hE]; exact h)
          refine W.call Try.call18 rfl (Beacon.Next_ok g1 seed name a n _ hs (by omega) (by omega) hS1 hnb) rfl ?_
          rintro v65 w65 ⟨rfl, hS1, hc65⟩
          rw [← hX, ← hE]
          rw [← hJ] at hS1 hJl
          have hS2 := hS2.chg hc65 (by omega)
          have hS3 := hS3.chg hc65 (by omega)
          have hX65 := hX47.news hc65 (fun k hk => Or.inr (by omega))
          refine W.move rfl rfl ?_
          refine W.extract rfl rfl rfl ?_
          refine W.extract rfl rfl rfl ?_
          refine W.assign rfl rfl ?_
          refine W.assign rfl rfl ?_
          refine W.nil ?_
          refine At.thenCode ?_
          refine C.seq ?_
          refine C.region ?_
          refine W.move rfl rfl ?_
          refine W.move rfl rfl ?_
          refine W.move rfl rfl ?_
          refine W.idx (v := .int .u64 ((n : Nat) : Int)) X64 Try.underlying24 Try.underlying30 rfl rfl (hS.ext hX65) rfl (by omega) ?_ rfl rfl ?_
          · rw [Int.toNat_natCast]
            exact hgn
          intro p72
          -- read with the address
          refine W.call Try.call19 rfl (Beacon.RNext_ok g3 seed name a n _ hs (by omega) (by omega) hS3 hnb) rfl ?_
          rintro v74 w74 ⟨rfl, hS3, hc74⟩
          rw [← hX, ← hE]
          rw [← hJ] at hS3
          have hS1 := hS1.chg hc74 (by omega)
          have hS2 := hS2.chg hc74 (by omega)
          have hX74 := hX65.news hc74 (fun k hk => Or.inr (by omega))
          refine W.move rfl rfl ?_
          refine W.extract rfl rfl rfl ?_
          refine W.extract rfl rfl rfl ?_
          refine W.assign rfl rfl ?_
          refine W.assign rfl rfl ?_
          refine W.nil ?_
          refine At.thenCode ?_
          refine C.seq ?_
          refine C.region ?_
          refine W.move rfl rfl ?_
          refine W.move rfl rfl ?_
          refine W.neqU rfl rfl rfl ?_
          refine W.eqv (bF (by simp)) ?_
          refine W.move rfl rfl ?_
          refine W.wants rfl rfl rfl rfl ?_
          refine W.move rfl rfl ?_
          refine W.wants rfl rfl rfl rfl ?_
          refine W.call Try.call20 rfl (num_ok _ _) rfl ?_
          rintro v82 w82 ⟨rfl, rfl⟩
          refine W.wants rfl rfl rfl rfl ?_
          refine W.move rfl rfl ?_
          refine W.wants rfl rfl rfl rfl ?_
          refine W.neqI rfl rfl rfl ?_
          refine W.eqv (bF (by simp)) ?_
          refine W.pickF rfl rfl rfl ?_
          refine W.move rfl rfl ?_
          refine W.wants rfl rfl rfl rfl ?_
          refine W.move rfl rfl ?_
          refine W.wants rfl rfl rfl rfl ?_
          refine W.eqlI rfl rfl rfl ?_
          refine W.wants rfl rfl rfl rfl ?_
          refine W.move rfl rfl ?_
          first | refine W.splitD (fun g89 => ?_) (fun g89 => ?_) | refine W.splitB (fun g89 => ?_) (fun g89 => ?_)
          · refine W.wants rfl rfl rfl rfl ?_
            refine W.move rfl rfl ?_
            refine W.wants rfl rfl rfl rfl ?_
            refine W.move rfl rfl ?_
            refine W.wants rfl rfl rfl rfl ?_
            refine W.move rfl rfl ?_
            refine W.wants rfl rfl rfl rfl ?_
            refine W.indexS (i := (i : Int)) X64 Try.underlying24 rfl (hS.ext hX74) rfl ⟨by omega, by omega⟩ rfl ?_
            intro ad93 _ had93 hc93
            refine W.wants rfl rfl rfl rfl ?_
            refine W.load (v := .int .u64 (n : Int)) rfl Try.underlying30 rfl (by
              rw [Int.toNat_natCast, Nat.mul_one] at hc93
              have h := hc93 0 (.int .u64 (n : Int)) (by rw [List.getElem?_drop, Nat.add_zero]; exact hgn)
              exact h) rfl ?_
            refine W.wants rfl rfl rfl rfl ?_
            refine W.geqU rfl rfl rfl ?_
            refine W.eqv (bF (by have := hEX (by assumption); omega)) ?_
            refine W.wants rfl rfl rfl rfl ?_
            refine W.pickT rfl rfl rfl ?_
            refine W.pickF rfl rfl rfl ?_
            refine W.nil ?_
            refine At.thenCode ?_
            refine C.condF rfl ?_
            refine C.skip ?_
            refine At.blockNormal ?_
            refine At.thenCode ?_
            refine C.region ?_
            refine W.move rfl rfl ?_
            first | refine W.addI rfl rfl (by omega) rfl ?_ | refine W.addW rfl rfl rfl ?_
            refine W.assign rfl rfl ?_
            refine W.nil ?_
            refine At.thenRound (i + 1, J) (Sub.cons (rfl) (Sub.cons (rfl) (Sub.cons (rfl) (Sub.cons (rfl) (Sub.cons (rfl) (Sub.nil)))))) (show Ext w _ ∧ (i + 1) ≤ xs.length ∧ (J) ≤ 64 * (i + 1) ∧ St _ g1 seed name (J) ∧ St _ g2 seed nx (i + 1) ∧ RSt _ g3 seed name (J) from ?_) (show xs.length - (i + 1) < xs.length - i from ?_)
            · exact ⟨hX74, by omega, by omega, hS1, hS2, hS3⟩
            · omega
          · refine W.skips rfl rfl rfl rfl rfl rfl ?_
            refine W.skips rfl rfl rfl rfl rfl rfl ?_
            refine W.skips rfl rfl rfl rfl rfl rfl ?_
            refine W.skips rfl rfl rfl rfl rfl rfl ?_
            refine W.skips rfl rfl rfl rfl rfl rfl ?_
            refine W.skips rfl rfl rfl rfl rfl rfl ?_
            refine W.wants rfl rfl rfl rfl ?_
            refine W.pickF rfl rfl rfl ?_
            refine W.pickF rfl rfl rfl ?_
            refine W.nil ?_
            refine At.thenCode ?_
            refine C.condF rfl ?_
            refine C.skip ?_
            refine At.blockNormal ?_
            refine At.thenCode ?_
            refine C.region ?_
            refine W.move rfl rfl ?_
            first | refine W.addI rfl rfl (by omega) rfl ?_ | refine W.addW rfl rfl rfl ?_
            refine W.assign rfl rfl ?_
            refine W.nil ?_
            refine At.thenRound (i + 1, J) (Sub.cons (rfl) (Sub.cons (rfl) (Sub.cons (rfl) (Sub.cons (rfl) (Sub.cons (rfl) (Sub.nil)))))) (show Ext w _ ∧ (i + 1) ≤ xs.length ∧ (J) ≤ 64 * (i + 1) ∧ St _ g1 seed name (J) ∧ St _ g2 seed nx (i + 1) ∧ RSt _ g3 seed name (J) from ?_) (show xs.length - (i + 1) < xs.length - i from ?_)
            · exact ⟨hX74, by omega, by omega, hS1, hS2, hS3⟩
            · omega
      · refine C.exit ?_
        refine At.thenExit ?_
        refine At.thenExit ?_
        refine At.blockSelf ?_
        refine At.thenCode ?_
        refine C.seq ?_
        refine C.region ?_
        refine W.assign rfl rfl ?_
        refine W.nil ?_
        refine At.thenCode ?_
        refine C.ret ?_
        refine At.ret1 Try.results3 rfl ?_
        first | exact ⟨rfl, Ext.below hX14a⟩ | exact ⟨rfl, Ext.below hXi⟩
end Go.Proofs.Ytomfnficblnngaa.Law12
