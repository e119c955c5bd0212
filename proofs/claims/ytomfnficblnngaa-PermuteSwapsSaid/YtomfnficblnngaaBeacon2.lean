/- Package beacon and the reference's streams: numbers below a limit. -/
import Derived.Test.YtomfnficblnngaaBeacon
namespace Go.Proofs.Ytomfnficblnngaa.Beacon
open Go Go.RowKit Go.Proofs.Ytomfnficblnngaa.KW Go.Proofs.Ytomfnficblnngaa.Words Go.Proofs.Ytomfnficblnngaa.Sha Go.Proofs.Ytomfnficblnngaa.RSha
set_option linter.unusedVariables false
set_option linter.unusedSimpArgs false
set_option maxRecDepth 100000

theorem not64 {m : Nat} (h : m < 18446744073709551616) : KW.notM 18446744073709551616 m = 18446744073709551615 - m := by
  have e := congrArg BitVec.toNat (BitVec.xor_allOnes (x := BitVec.ofNat 64 m))
  rw [BitVec.toNat_xor, BitVec.toNat_allOnes, BitVec.toNat_not, BitVec.toNat_ofNat, Nat.mod_eq_of_lt (show m < 2 ^ 64 from h)] at e
  unfold KW.notM
  rw [Nat.xor_comm, show 18446744073709551616 - 1 = 2 ^ 64 - 1 from rfl, e]
  omega
/-- How many words are passed over. -/
def rejN (f : Nat → Nat) (n : Nat) : Nat → Nat → Nat
  | 0, _ => 0
  | k + 1, i => if f i ≤ 18446744073709551615 - 18446744073709551616 % n then 0 else rejN f n k (i + 1) + 1
theorem rejN_le (f : Nat → Nat) (n : Nat) : ∀ k i, rejN f n k i ≤ k := by
  intro k
  induction k with
  | zero => intro i; exact Nat.le_refl _
  | succ k ih => intro i; rw [rejN]; split; · omega
                 · have := ih (i + 1); omega
def nextE (f : Nat → Nat) (n i : Nat) : Int := if n = 0 then 1 else if rejN f n 64 i < 64 then 0 else 9
def nextX (f : Nat → Nat) (n i : Nat) : Nat := if n = 0 then 0 else if rejN f n 64 i < 64 then f (i + rejN f n 64 i) % n else 0
def nextI (f : Nat → Nat) (n i : Nat) : Nat := if n = 0 then i else if rejN f n 64 i < 64 then i + rejN f n 64 i + 1 else i + 64
theorem nextI_le (f : Nat → Nat) (n i : Nat) : nextI f n i ≤ i + 64 := by
  unfold nextI; split; · omega
  · split <;> omega
theorem nextX_lt {f : Nat → Nat} {n i : Nat} (h : nextE f n i = 0) : nextX f n i < n := by
  unfold nextE at h
  unfold nextX
  split at h
  · cases h
  · rename_i h0
    split at h
    · rename_i h1
      rw [if_neg h0, if_pos h1]
      exact Nat.mod_lt _ (by omega)
    · cases h
theorem nextE_cases (f : Nat → Nat) (n i : Nat) : nextE f n i = 0 ∨ nextE f n i = 1 ∨ nextE f n i = 9 := by
  unfold nextE; split; · exact .inr (.inl rfl)
  · split; · exact .inl rfl
    · exact .inr (.inr rfl)
theorem nextE_0 {f : Nat → Nat} {n i : Nat} (h : n = 0) : nextE f n i = 1 ∧ nextX f n i = 0 ∧ nextI f n i = i := by
  unfold nextE nextX nextI; rw [if_pos h, if_pos h, if_pos h]; exact ⟨rfl, rfl, rfl⟩
theorem next_hit {f : Nat → Nat} {n i j : Nat} (h0 : ¬ n = 0) (hj : j < 64) (hr : rejN f n 64 i = rejN f n (64 - j) (i + j) + j) (h : f (i + j) ≤ 18446744073709551615 - 18446744073709551616 % n) :
    nextE f n i = 0 ∧ nextX f n i = f (i + j) % n ∧ nextI f n i = i + j + 1 := by
  have e : rejN f n (64 - j) (i + j) = 0 := by
    obtain ⟨k, hk⟩ : ∃ k, 64 - j = k + 1 := ⟨63 - j, by omega⟩
    rw [hk, rejN, if_pos h]
  rw [e, Nat.zero_add] at hr
  unfold nextE nextX nextI
  rw [if_neg h0, if_neg h0, if_neg h0, hr, if_pos hj, if_pos hj, if_pos hj]
  exact ⟨rfl, rfl, rfl⟩
theorem next_pass {f : Nat → Nat} {n i j : Nat} (hj : j < 64) (hr : rejN f n 64 i = rejN f n (64 - j) (i + j) + j) (h : ¬ f (i + j) ≤ 18446744073709551615 - 18446744073709551616 % n) :
    rejN f n 64 i = rejN f n (64 - (j + 1)) (i + (j + 1)) + (j + 1) := by
  obtain ⟨k, hk⟩ : ∃ k, 64 - j = k + 1 := ⟨63 - j, by omega⟩
  have e : rejN f n (k + 1) (i + j) = rejN f n k (i + j + 1) + 1 := by rw [rejN, if_neg h]
  rw [hk, e] at hr
  rw [show 64 - (j + 1) = k by omega, show i + (j + 1) = i + j + 1 by omega]
  omega
theorem next_miss {f : Nat → Nat} {n i : Nat} (h0 : ¬ n = 0) (hr : rejN f n 64 i = rejN f n (64 - 64) (i + 64) + 64) :
    nextE f n i = 9 ∧ nextX f n i = 0 ∧ nextI f n i = i + 64 := by
  rw [rejN] at hr
  unfold nextE nextX nextI
  rw [if_neg h0, if_neg h0, if_neg h0, hr]
  exact ⟨rfl, rfl, rfl⟩
theorem Next_ok (g : Nat) (seed name : List UInt8) (i n : Nat) (w : World) (hs : seed.length = 32) (hn : name.length ≤ 100000) (hi : i ≤ 900000000) (hS : St w g seed name i) (hnl : n < 18446744073709551616) :
    Ct Try.prog 18 #[.pointer (some ⟨g, 0, none⟩), .int .u64 (n : Int)] w (fun v w' => v = .tuple #[.int .u64 (nextX (wordV seed name) n i : Int), .int .i64 (nextE (wordV seed name) n i)] ∧ St w' g seed name (nextI (wordV seed name) n i) ∧ Chg (fun k => k = g) w w') := by
  refine Ct.enter [(0, .pointer (some ⟨g, 0, none⟩)), (1, .int .u64 (n : Int))] Try.func18 rfl rfl rfl rfl ?_
  refine C.seq ?_
  refine C.region ?_
  refine W.assign rfl rfl ?_
  refine W.assign rfl rfl ?_
  refine W.nil ?_
  refine At.thenCode ?_
  refine C.seq ?_
  refine C.seq ?_
  refine C.region ?_
  refine W.move rfl rfl ?_
  refine W.eqlU (n := 0) rfl rfl rfl ?_
  refine W.nil ?_
  refine At.thenCode ?_
  first | refine C.condD rfl (fun c9 => ?_) (fun c9 => ?_) | refine C.cond rfl (fun c9 => ?_) (fun c9 => ?_)
  · refine C.seq ?_
    refine C.region ?_
    refine W.assign rfl rfl ?_
    refine W.assign rfl rfl ?_
    refine W.nil ?_
    refine At.thenCode ?_
    refine C.ret ?_
    refine At.thenRet ?_
    refine At.ret2 Try.results18 rfl rfl ?_
    first
    | exact ⟨by rw [(nextE_0 (f := wordV seed name) (i := i) (show n = 0 by omega)).1, (nextE_0 (f := wordV seed name) (i := i) (show n = 0 by omega)).2.1]; rfl, by rw [(nextE_0 (f := wordV seed name) (i := i) (show n = 0 by omega)).2.2]; exact hS, (Ext.refl w).mono fun _ x => x.elim⟩
    | exact ⟨by rw [hh.1, hh.2.1], by rw [hh.2.2]; exact hS15, hC.trans hc15⟩
    | (obtain rfl : j = 64 := by omega
       have hh := next_miss (f := wordV seed name) (by omega) hr
       exact ⟨by rw [hh.1, hh.2.1]; rfl, by rw [hh.2.2]; exact hSj, hC⟩)
  · refine C.skip ?_
    refine At.thenCode ?_
    refine C.seq ?_
    refine C.region ?_
    refine W.move rfl rfl ?_
    refine W.call Try.call46 rfl (Div1.Rem64_1 n (by omega) hnl _) rfl ?_
    rintro v11 w11 ⟨rfl, hX11⟩
    obtain ⟨R, hR⟩ : ∃ R, R = 18446744073709551616 % n := ⟨_, rfl⟩
    have hRn : R < n := by rw [hR]; exact Nat.mod_lt _ (by omega)
    rw [← hR]
    refine W.assign rfl rfl ?_
    refine W.nil ?_
    refine At.thenCode ?_
    refine C.seq ?_
    refine C.seq ?_
    refine C.region ?_
    refine W.move rfl rfl ?_
    refine W.nil ?_
    refine At.thenCode ?_
    refine C.block ?_
    refine C.loop (X := Nat) (fun x_ => [(0, .pointer (some ⟨g, 0, none⟩)), (1, .int .u64 (n : Int)), (6, .int .u64 (R : Int)), (12, .int .i64 (x_ : Int))]) (fun x_ w1 => Chg (fun k => k = g) w w1 ∧ x_ ≤ 64 ∧ St w1 g seed name (i + x_) ∧ rejN (wordV seed name) n 64 i = rejN (wordV seed name) n (64 - x_) (i + x_) + x_) (fun x_ => 64 - x_) (0) (Sub.cons (rfl) (Sub.cons (rfl) (Sub.cons (rfl) (Sub.cons (rfl) (Sub.nil))))) ?start1 ?_
    case start1 =>
      show Chg (fun k => k = g) w _ ∧ (0) ≤ 64 ∧ St _ g seed name (i + (0)) ∧ rejN (wordV seed name) n 64 i = rejN (wordV seed name) n (64 - (0)) (i + (0)) + (0)
      exact ⟨hX11.mono fun _ x => x.elim, by omega, hS.ext hX11, rfl⟩
    rintro j w1 hI_
    replace hI_ : Chg (fun k => k = g) w w1 ∧ j ≤ 64 ∧ St w1 g seed name (i + j) ∧ rejN (wordV seed name) n 64 i = rejN (wordV seed name) n (64 - j) (i + j) + j := hI_
    obtain ⟨hC, hj, hSj, hr⟩ := hI_
    refine C.weaken (l' := [(0, .pointer (some ⟨g, 0, none⟩)), (1, .int .u64 (n : Int)), (6, .int .u64 (R : Int)), (12, .int .i64 (j : Int))]) (Sub.cons (rfl) (Sub.cons (rfl) (Sub.cons (rfl) (Sub.cons (rfl) (Sub.nil))))) ?_
    refine C.seq ?_
    refine C.region ?_
    refine W.lssI rfl rfl rfl ?_
    refine W.nil ?_
    refine At.thenCode ?_
    refine C.seq ?_
    first | refine C.condD rfl (fun c13 => ?_) (fun c13 => ?_) | refine C.cond rfl (fun c13 => ?_) (fun c13 => ?_)
    · refine C.skip ?_
      refine At.thenCode ?_
      refine C.seq ?_
      refine C.block ?_
      refine C.seq ?_
      refine C.region ?_
      refine W.move rfl rfl ?_
      refine W.call Try.call16 rfl (Beacon.Word_ok g seed name (i + j) _ hs hn (by omega) hSj) rfl ?_
      rintro v15 w15 ⟨rfl, hS15, hc15⟩
      have hwl := wordV_lt seed name (i + j)
      refine W.assign rfl rfl ?_
      refine W.nil ?_
      refine At.thenCode ?_
      refine C.seq ?_
      refine C.region ?_
      refine W.move rfl rfl ?_
      refine W.move rfl rfl ?_
      refine W.notU (M := 18446744073709551616) rfl rfl rfl rfl ?_
      refine W.eqv (v' := .int .u64 ((18446744073709551615 - R : Nat) : Int)) (iV (by rw [not64 (by omega)])) ?_
      refine W.leqU rfl rfl rfl ?_
      refine W.nil ?_
      refine At.thenCode ?_
      first | refine C.condD rfl (fun c19 => ?_) (fun c19 => ?_) | refine C.cond rfl (fun c19 => ?_) (fun c19 => ?_)
      · have hh := next_hit (f := wordV seed name) (by omega) (by omega) hr (by rw [← hR]; omega)
        refine C.seq ?_
        refine C.region ?_
        refine W.move rfl rfl ?_
        refine W.move rfl rfl ?_
        refine W.remU rfl rfl (by omega) rfl ?_
        refine W.assign rfl rfl ?_
        refine W.assign rfl rfl ?_
        refine W.nil ?_
        refine At.thenCode ?_
        refine C.ret ?_
        refine At.blockRet ?_
        refine At.thenRet ?_
        refine At.thenRet ?_
        refine At.blockRet ?_
        refine At.thenRet ?_
        refine At.ret2 Try.results18 rfl rfl ?_
        first
        | exact ⟨by rw [(nextE_0 (f := wordV seed name) (i := i) (show n = 0 by omega)).1, (nextE_0 (f := wordV seed name) (i := i) (show n = 0 by omega)).2.1]; rfl, by rw [(nextE_0 (f := wordV seed name) (i := i) (show n = 0 by omega)).2.2]; exact hS, (Ext.refl w).mono fun _ x => x.elim⟩
        | exact ⟨by rw [hh.1, hh.2.1], by rw [hh.2.2]; exact hS15, hC.trans hc15⟩
        | (obtain rfl : j = 64 := by omega
           have hh := next_miss (f := wordV seed name) (by omega) hr
           exact ⟨by rw [hh.1, hh.2.1]; rfl, by rw [hh.2.2]; exact hSj, hC⟩)
      · refine C.skip ?_
        refine At.blockNormal ?_
        refine At.thenCode ?_
        refine C.region ?_
        first | refine W.addI rfl rfl (by omega) rfl ?_ | refine W.addW rfl rfl rfl ?_
        refine W.move rfl rfl ?_
        refine W.nil ?_
        refine At.thenRound (j + 1) (Sub.cons (rfl) (Sub.cons (rfl) (Sub.cons (rfl) (Sub.cons (rfl) (Sub.nil))))) (show Chg (fun k => k = g) w _ ∧ (j + 1) ≤ 64 ∧ St _ g seed name (i + (j + 1)) ∧ rejN (wordV seed name) n 64 i = rejN (wordV seed name) n (64 - (j + 1)) (i + (j + 1)) + (j + 1) from ?_) (show 64 - (j + 1) < 64 - j from ?_)
        · exact ⟨hC.trans hc15, by omega, hS15, next_pass (by omega) hr (by rw [← hR]; omega)⟩
        · omega
    · refine C.exit ?_
      refine At.thenExit ?_
      refine At.thenExit ?_
      refine At.blockSelf ?_
      refine At.thenCode ?_
      refine C.seq ?_
      refine C.region ?_
      refine W.assign rfl rfl ?_
      refine W.assign rfl rfl ?_
      refine W.nil ?_
      refine At.thenCode ?_
      refine C.ret ?_
      refine At.ret2 Try.results18 rfl rfl ?_
      first
      | exact ⟨by rw [(nextE_0 (f := wordV seed name) (i := i) (show n = 0 by omega)).1, (nextE_0 (f := wordV seed name) (i := i) (show n = 0 by omega)).2.1]; rfl, by rw [(nextE_0 (f := wordV seed name) (i := i) (show n = 0 by omega)).2.2]; exact hS, (Ext.refl w).mono fun _ x => x.elim⟩
      | exact ⟨by rw [hh.1, hh.2.1], by rw [hh.2.2]; exact hS15, hC.trans hc15⟩
      | (obtain rfl : j = 64 := by omega
         have hh := next_miss (f := wordV seed name) (by omega) hr
         exact ⟨by rw [hh.1, hh.2.1]; rfl, by rw [hh.2.2]; exact hSj, hC⟩)
theorem most_mod {n : Nat} (h0 : 0 < n) (hn : n < 18446744073709551616) : addM 18446744073709551616 (18446744073709551615 % n) 1 % n = 18446744073709551616 % n := by
  have h := Nat.mod_lt 18446744073709551615 h0
  rw [addM, Nat.mod_eq_of_lt (show 18446744073709551615 % n + 1 < 18446744073709551616 by omega)]
  rw [Nat.mod_add_mod]
theorem RNext_ok (g : Nat) (seed name : List UInt8) (i n : Nat) (w : World) (hs : seed.length = 32) (hn : name.length ≤ 100000) (hi : i ≤ 900000000) (hS : RSt w g seed name i) (hnl : n < 18446744073709551616) :
    Ct Try.prog 19 #[.pointer (some ⟨g, 0, none⟩), .int .u64 (n : Int)] w (fun v w' => v = .tuple #[.int .u64 (nextX (wordV seed name) n i : Int), .int .i64 (nextE (wordV seed name) n i)] ∧ RSt w' g seed name (nextI (wordV seed name) n i) ∧ Chg (fun k => k = g) w w') := by
  refine Ct.enter [(0, .pointer (some ⟨g, 0, none⟩)), (1, .int .u64 (n : Int))] Try.func19 rfl rfl rfl rfl ?_
  refine C.seq ?_
  refine C.region ?_
  refine W.assign rfl rfl ?_
  refine W.assign rfl rfl ?_
  refine W.nil ?_
  refine At.thenCode ?_
  refine C.seq ?_
  refine C.seq ?_
  refine C.region ?_
  refine W.move rfl rfl ?_
  refine W.eqlU (n := 0) rfl rfl rfl ?_
  refine W.nil ?_
  refine At.thenCode ?_
  first | refine C.condD rfl (fun c11 => ?_) (fun c11 => ?_) | refine C.cond rfl (fun c11 => ?_) (fun c11 => ?_)
  · refine C.seq ?_
    refine C.region ?_
    refine W.assign rfl rfl ?_
    refine W.assign rfl rfl ?_
    refine W.nil ?_
    refine At.thenCode ?_
    refine C.ret ?_
    refine At.thenRet ?_
    refine At.ret2 Try.results19 rfl rfl ?_
    first
    | exact ⟨by rw [(nextE_0 (f := wordV seed name) (i := i) (show n = 0 by omega)).1, (nextE_0 (f := wordV seed name) (i := i) (show n = 0 by omega)).2.1]; rfl, by rw [(nextE_0 (f := wordV seed name) (i := i) (show n = 0 by omega)).2.2]; exact hS, (Ext.refl w).mono fun _ x => x.elim⟩
    | exact ⟨by rw [hh.1, hh.2.1], by rw [hh.2.2]; exact hS23, hC.trans hc23⟩
    | (obtain rfl : j = 64 := by omega
       have hh := next_miss (f := wordV seed name) (by omega) hr
       exact ⟨by rw [hh.1, hh.2.1]; rfl, by rw [hh.2.2]; exact hSj, hC⟩)
  · refine C.skip ?_
    refine At.thenCode ?_
    refine C.seq ?_
    refine C.region ?_
    refine W.assign rfl rfl ?_
    refine W.nil ?_
    refine At.thenCode ?_
    refine C.seq ?_
    refine C.region ?_
    refine W.move rfl rfl ?_
    refine W.move rfl rfl ?_
    refine W.remU rfl rfl (by omega) rfl ?_
    refine W.addU (M := 18446744073709551616) (n := 1) rfl rfl rfl rfl rfl ?_
    refine W.move rfl rfl ?_
    refine W.remU rfl rfl (by omega) rfl ?_
    obtain ⟨R, hR⟩ : ∃ R, R = 18446744073709551616 % n := ⟨_, rfl⟩
    have hRn : R < n := by rw [hR]; exact Nat.mod_lt _ (by omega)
    refine W.eqv (v' := .int .u64 (R : Int)) (iV (by rw [hR, most_mod (by omega) hnl])) ?_
    refine W.assign rfl rfl ?_
    refine W.nil ?_
    refine At.thenCode ?_
    refine C.seq ?_
    refine C.seq ?_
    refine C.region ?_
    refine W.assign rfl rfl ?_
    refine W.nil ?_
    refine At.thenCode ?_
    refine C.block ?_
    refine C.loop (X := Nat) (fun x_ => [(0, .pointer (some ⟨g, 0, none⟩)), (1, .int .u64 (n : Int)), (6, .int .u64 ((18446744073709551615 : Nat) : Int)), (7, .int .u64 (R : Int)), (8, .int .i64 (x_ : Int))]) (fun x_ w1 => Chg (fun k => k = g) w w1 ∧ x_ ≤ 64 ∧ RSt w1 g seed name (i + x_) ∧ rejN (wordV seed name) n 64 i = rejN (wordV seed name) n (64 - x_) (i + x_) + x_) (fun x_ => 64 - x_) (0) (Sub.cons (rfl) (Sub.cons (rfl) (Sub.cons (rfl) (Sub.cons (rfl) (Sub.cons (rfl) (Sub.nil)))))) ?start1 ?_
    case start1 =>
      show Chg (fun k => k = g) w _ ∧ (0) ≤ 64 ∧ RSt _ g seed name (i + (0)) ∧ rejN (wordV seed name) n 64 i = rejN (wordV seed name) n (64 - (0)) (i + (0)) + (0)
      exact ⟨(Ext.refl w).mono fun _ x => x.elim, by omega, hS, rfl⟩
    rintro j w1 hI_
    replace hI_ : Chg (fun k => k = g) w w1 ∧ j ≤ 64 ∧ RSt w1 g seed name (i + j) ∧ rejN (wordV seed name) n 64 i = rejN (wordV seed name) n (64 - j) (i + j) + j := hI_
    obtain ⟨hC, hj, hSj, hr⟩ := hI_
    refine C.weaken (l' := [(0, .pointer (some ⟨g, 0, none⟩)), (1, .int .u64 (n : Int)), (6, .int .u64 ((18446744073709551615 : Nat) : Int)), (7, .int .u64 (R : Int)), (8, .int .i64 (j : Int))]) (Sub.cons (rfl) (Sub.cons (rfl) (Sub.cons (rfl) (Sub.cons (rfl) (Sub.cons (rfl) (Sub.nil)))))) ?_
    refine C.seq ?_
    refine C.seq ?_
    refine C.region ?_
    refine W.move rfl rfl ?_
    refine W.lssI rfl rfl rfl ?_
    refine W.nil ?_
    refine At.thenCode ?_
    first | refine C.condD rfl (fun c19 => ?_) (fun c19 => ?_) | refine C.cond rfl (fun c19 => ?_) (fun c19 => ?_)
    · refine C.skip ?_
      refine At.thenCode ?_
      refine C.seq ?_
      refine C.block ?_
      refine C.seq ?_
      refine C.region ?_
      refine W.move rfl rfl ?_
      refine W.call Try.call17 rfl (Beacon.RWord_ok g seed name (i + j) _ hs hn (by omega) hSj) rfl ?_
      rintro v23 w23 ⟨rfl, hS23, hc23⟩
      have hwl := wordV_lt seed name (i + j)
      refine W.assign rfl rfl ?_
      refine W.nil ?_
      refine At.thenCode ?_
      refine C.seq ?_
      refine C.region ?_
      refine W.move rfl rfl ?_
      refine W.move rfl rfl ?_
      refine W.move rfl rfl ?_
      refine W.subU (M := 18446744073709551616) rfl rfl rfl rfl rfl ?_
      refine W.eqv (v' := .int .u64 ((18446744073709551615 - R : Nat) : Int)) (iV (by unfold subM; omega)) ?_
      refine W.leqU rfl rfl rfl ?_
      refine W.nil ?_
      refine At.thenCode ?_
      first | refine C.condD rfl (fun c28 => ?_) (fun c28 => ?_) | refine C.cond rfl (fun c28 => ?_) (fun c28 => ?_)
      · have hh := next_hit (f := wordV seed name) (by omega) (by omega) hr (by rw [← hR]; omega)
        refine C.seq ?_
        refine C.region ?_
        refine W.move rfl rfl ?_
        refine W.move rfl rfl ?_
        refine W.remU rfl rfl (by omega) rfl ?_
        refine W.assign rfl rfl ?_
        refine W.assign rfl rfl ?_
        refine W.nil ?_
        refine At.thenCode ?_
        refine C.ret ?_
        refine At.blockRet ?_
        refine At.thenRet ?_
        refine At.thenRet ?_
        refine At.blockRet ?_
        refine At.thenRet ?_
        refine At.ret2 Try.results19 rfl rfl ?_
        first
        | exact ⟨by rw [(nextE_0 (f := wordV seed name) (i := i) (show n = 0 by omega)).1, (nextE_0 (f := wordV seed name) (i := i) (show n = 0 by omega)).2.1]; rfl, by rw [(nextE_0 (f := wordV seed name) (i := i) (show n = 0 by omega)).2.2]; exact hS, (Ext.refl w).mono fun _ x => x.elim⟩
        | exact ⟨by rw [hh.1, hh.2.1], by rw [hh.2.2]; exact hS23, hC.trans hc23⟩
        | (obtain rfl : j = 64 := by omega
           have hh := next_miss (f := wordV seed name) (by omega) hr
           exact ⟨by rw [hh.1, hh.2.1]; rfl, by rw [hh.2.2]; exact hSj, hC⟩)
      · refine C.skip ?_
        refine At.blockNormal ?_
        refine At.thenCode ?_
        refine C.region ?_
        refine W.move rfl rfl ?_
        first | refine W.addI rfl rfl (by omega) rfl ?_ | refine W.addW rfl rfl rfl ?_
        refine W.assign rfl rfl ?_
        refine W.nil ?_
        refine At.thenRound (j + 1) (Sub.cons (rfl) (Sub.cons (rfl) (Sub.cons (rfl) (Sub.cons (rfl) (Sub.cons (rfl) (Sub.nil)))))) (show Chg (fun k => k = g) w _ ∧ (j + 1) ≤ 64 ∧ RSt _ g seed name (i + (j + 1)) ∧ rejN (wordV seed name) n 64 i = rejN (wordV seed name) n (64 - (j + 1)) (i + (j + 1)) + (j + 1) from ?_) (show 64 - (j + 1) < 64 - j from ?_)
        · exact ⟨hC.trans hc23, by omega, hS23, next_pass (by omega) hr (by rw [← hR]; omega)⟩
        · omega
    · refine C.exit ?_
      refine At.thenExit ?_
      refine At.thenExit ?_
      refine At.blockSelf ?_
      refine At.thenCode ?_
      refine C.seq ?_
      refine C.region ?_
      refine W.assign rfl rfl ?_
      refine W.assign rfl rfl ?_
      refine W.nil ?_
      refine At.thenCode ?_
      refine C.ret ?_
      refine At.ret2 Try.results19 rfl rfl ?_
      first
      | exact ⟨by rw [(nextE_0 (f := wordV seed name) (i := i) (show n = 0 by omega)).1, (nextE_0 (f := wordV seed name) (i := i) (show n = 0 by omega)).2.1]; rfl, by rw [(nextE_0 (f := wordV seed name) (i := i) (show n = 0 by omega)).2.2]; exact hS, (Ext.refl w).mono fun _ x => x.elim⟩
      | exact ⟨by rw [hh.1, hh.2.1], by rw [hh.2.2]; exact hS23, hC.trans hc23⟩
      | (obtain rfl : j = 64 := by omega
         have hh := next_miss (f := wordV seed name) (by omega) hr
         exact ⟨by rw [hh.1, hh.2.1]; rfl, by rw [hh.2.2]; exact hSj, hC⟩)
end Go.Proofs.Ytomfnficblnngaa.Beacon
