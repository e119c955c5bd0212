/- Package permute and the reference's orders: the draws. -/
import Derived.Test.YtomfnficblnngaaPerm1
namespace Go.Proofs.Ytomfnficblnngaa.Perm
open Go Go.RowKit Go.Proofs.Ytomfnficblnngaa.KW Go.Proofs.Ytomfnficblnngaa.Words Go.Proofs.Ytomfnficblnngaa.Beacon Go.Proofs.Ytomfnficblnngaa.Ints
set_option linter.unusedVariables false
set_option linter.unusedSimpArgs false
set_option maxRecDepth 100000

theorem own_slz {w : World} {base e sz n c : Nat} {ao : Option Addr} {cs : List Value} (h : w.ownsRow base e sz (.slice ao n c) n cs) : Sl w ao n c sz cs := by
  obtain ⟨a, c', he, hs, _⟩ := ownsRow_form h
  injection he with h1 h2 h3
  subst h1; subst h3
  exact hs
theorem z_set (L : List Int) (i : Nat) (x : Int) : (L.map (.int .i64) : List Value).set i (.int .i64 x) = (L.set i x).map (.int .i64) := List.map_set.symm
theorem at_z {w : World} {g n c i : Nat} {L : List Int} (h : Sl w (some ⟨g, 0, none⟩) n c 1 (L.map (.int .i64))) (hi : i < L.length) : w.cell? ⟨g, i, none⟩ = some (.int .i64 (L.getD i 0)) := by
  have := h.at_ _ rfl i (.int .i64 (L.getD i 0)) (get_z hi)
  rwa [add_mk, Nat.zero_add] at this
theorem ofE_bad {f : Nat → Nat} {n : Int} (h : n < 0 ∨ 1000 < n) : ofE f n = 1 ∧ ofL f n = [] := by
  have e : ofE f n = 1 := by unfold ofE; rw [if_pos h]
  exact ⟨e, by unfold ofL; rw [e]; rfl⟩
theorem ofE_sh {f : Nat → Nat} {n : Int} (h : ¬ (n < 0 ∨ 1000 < n)) : ofE f n = shE f (n.toNat - 1) 0 := by unfold ofE; rw [if_neg h]
theorem ofL_err {f : Nat → Nat} {n : Int} (h : ¬ ofE f n = 0) : ofL f n = [] := by unfold ofL; rw [if_neg h]
theorem ofL_fit {f : Nat → Nat} {n : Int} (h : ofE f n = 0) : ofL f n = shL f (n.toNat - 1) 0 (idL n.toNat) := by unfold ofL; rw [if_pos h]
def OfR (f : Nat → Nat) (n : Int) (base : Nat) (v : Value) (w : World) : Prop := ∃ ao c, v = .tuple #[.slice ao (ofL f n).length c, .int .i64 (ofE f n)] ∧ Zs w ao c (ofL f n) ∧ ∀ ad, ao = some ad → base ≤ ad.block
theorem OfR.err {f : Nat → Nat} {n : Int} {base : Nat} {w : World} (h : ofL f n = []) : OfR f n base (.tuple #[.slice none 0 0, .int .i64 (ofE f n)]) w :=
  ⟨none, 0, by rw [h]; rfl, by rw [h]; exact Sl.none _ 1, fun ad h => by cases h⟩
theorem Of_ok (g : Nat) (seed name : List UInt8) (n : Int) (w : World) (hs : seed.length = 32) (hn : name.length ≤ 100000) (hS : St w g seed name 0) (hb : -9223372036854775808 ≤ n ∧ n ≤ 9223372036854775807) :
    Ct Try.prog 25 #[.int .i64 n, .pointer (some ⟨g, 0, none⟩)] w (fun v w' => OfR (wordV seed name) n w.heap.size v w' ∧ Chg (fun k => k = g) w w') := by
  refine Ct.enter [(0, .int .i64 n), (1, .pointer (some ⟨g, 0, none⟩))] Try.func25 rfl rfl rfl rfl ?_
  have hgl := hS.lt
  obtain ⟨f, hf⟩ : ∃ f, f = wordV seed name := ⟨_, rfl⟩
  obtain ⟨N, hN⟩ : ∃ N : Nat, N = n.toNat := ⟨_, rfl⟩
  rw [← hf]
  refine C.seq ?_
  refine C.region ?_
  refine W.assign rfl rfl ?_
  refine W.assign rfl rfl ?_
  refine W.nil ?_
  refine At.thenCode ?_
  refine C.seq ?_
  refine C.seq ?_
  refine C.region ?_
  refine W.move rfl rfl ?_
  refine W.lssI rfl rfl rfl ?_
  refine W.move rfl rfl ?_
  first | refine W.splitD (fun g13 => ?_) (fun g13 => ?_) | refine W.splitB (fun g13 => ?_) (fun g13 => ?_)
  · refine W.skips rfl rfl rfl rfl rfl rfl ?_
    refine W.skips rfl rfl rfl rfl rfl rfl ?_
    refine W.pickT rfl rfl rfl ?_
    refine W.nil ?_
    refine At.thenCode ?_
    refine C.condT rfl ?_
    refine C.seq ?_
    refine C.region ?_
    refine W.assign rfl rfl ?_
    refine W.assign rfl rfl ?_
    refine W.nil ?_
    refine At.thenCode ?_
    refine C.ret ?_
    refine At.thenRet ?_
    refine At.ret2 Try.results25 rfl rfl ?_
    first
    | (have hbad := ofE_bad (f := f) (n := n) (by omega)
       exact ⟨by have := OfR.err (base := w.heap.size) (w := w) hbad.2; rw [hbad.1] at this; exact this, (Ext.refl w).mono fun _ x => x.elim⟩)
    | (have hE1 : ¬ E = 0 := by simpa using c44
       rw [if_neg hE1] at hsE
       rw [hsE] at hE0
       refine ⟨?_, hC.trans hc40⟩
       rw [← hE0]
       exact OfR.err (ofL_err (by rw [hE0]; exact hE1)))
    | (obtain rfl : k = 0 := by omega
       rw [shE] at hsE
       rw [shL] at hsL
       have hE1 : ofE f n = 0 := by rw [hE0, hsE]
       have hl := ofL_fit hE1
       rw [← hN, hsL] at hl
       refine ⟨⟨some ⟨g18, 0, none⟩, i, by rw [hl, hE1, hL], ?_, fun ad e => by obtain rfl := Option.some.inj e; show w.heap.size ≤ g18; omega⟩, hC⟩
       rw [hl]
       show Sl _ _ _ _ _ _
       rw [hL]
       exact own_slz hO)
  · refine W.wants rfl rfl rfl rfl ?_
    refine W.move rfl rfl ?_
    refine W.wants rfl rfl rfl rfl ?_
    refine W.gtrI rfl rfl rfl ?_
    refine W.pickF rfl rfl rfl ?_
    refine W.nil ?_
    refine At.thenCode ?_
    first | refine C.condD rfl (fun c16 => ?_) (fun c16 => ?_) | refine C.cond rfl (fun c16 => ?_) (fun c16 => ?_)
    · refine C.seq ?_
      refine C.region ?_
      refine W.assign rfl rfl ?_
      refine W.assign rfl rfl ?_
      refine W.nil ?_
      refine At.thenCode ?_
      refine C.ret ?_
      refine At.thenRet ?_
      refine At.ret2 Try.results25 rfl rfl ?_
      first
      | (have hbad := ofE_bad (f := f) (n := n) (by omega)
         exact ⟨by have := OfR.err (base := w.heap.size) (w := w) hbad.2; rw [hbad.1] at this; exact this, (Ext.refl w).mono fun _ x => x.elim⟩)
      | (have hE1 : ¬ E = 0 := by simpa using c44
         rw [if_neg hE1] at hsE
         rw [hsE] at hE0
         refine ⟨?_, hC.trans hc40⟩
         rw [← hE0]
         exact OfR.err (ofL_err (by rw [hE0]; exact hE1)))
      | (obtain rfl : k = 0 := by omega
         rw [shE] at hsE
         rw [shL] at hsL
         have hE1 : ofE f n = 0 := by rw [hE0, hsE]
         have hl := ofL_fit hE1
         rw [← hN, hsL] at hl
         refine ⟨⟨some ⟨g18, 0, none⟩, i, by rw [hl, hE1, hL], ?_, fun ad e => by obtain rfl := Option.some.inj e; show w.heap.size ≤ g18; omega⟩, hC⟩
         rw [hl]
         show Sl _ _ _ _ _ _
         rw [hL]
         exact own_slz hO)
    · have hok : ¬ (n < 0 ∨ 1000 < n) := by omega
      have hE0 := ofE_sh (f := f) hok
      rw [← hN] at hE0
      refine C.skip ?_
      refine At.thenCode ?_
      refine C.seq ?_
      refine C.region ?_
      refine W.move rfl rfl ?_
      refine W.make1 (k := N) XI rfl Try.underlying48 rfl rfl (by omega) (by omega) (by omega) (by omega) rfl ?_
      intro g18 w18 hg18 hX18 ho18
      refine W.assign rfl rfl ?_
      refine W.nil ?_
      refine At.thenCode ?_
      refine C.seq ?_
      refine C.seq ?_
      refine C.region ?_
      refine W.move rfl rfl ?_
      refine W.lenS rfl Try.underlying48 rfl ?_
      refine W.move rfl rfl ?_
      refine W.nil ?_
      refine At.thenCode ?_
      refine C.block ?_
      refine C.loop (X := Nat) (fun x_ => [(0, .int .i64 n), (1, .pointer (some ⟨g, 0, none⟩)), (6, .slice (some ⟨g18, 0, none⟩) N N), (20, .int .i64 (N : Int)), (21, .int .i64 (x_ : Int))]) (fun x_ w1 => Ext w w1 ∧ x_ ≤ N ∧ World.ownsRow w1 w.heap.size 3 1 (.slice (some ⟨g18, 0, none⟩) N N) N ((idP N x_).map (.int .i64)) ∧ St w1 g seed name 0) (fun x_ => N - x_) (0) (Sub.cons (rfl) (Sub.cons (rfl) (Sub.cons (rfl) (Sub.cons (rfl) (Sub.cons (rfl) (Sub.nil)))))) ?start1 ?_
      case start1 =>
        show Ext w _ ∧ (0) ≤ N ∧ World.ownsRow _ w.heap.size 3 1 (.slice (some ⟨g18, 0, none⟩) N N) N ((idP N (0)).map (.int .i64)) ∧ St _ g seed name 0
        exact ⟨hX18, by omega, by rw [idP_zero, List.map_replicate]; exact ho18, hS.ext hX18⟩
      rintro i w1 hI_
      replace hI_ : Ext w w1 ∧ i ≤ N ∧ World.ownsRow w1 w.heap.size 3 1 (.slice (some ⟨g18, 0, none⟩) N N) N ((idP N i).map (.int .i64)) ∧ St w1 g seed name 0 := hI_
      obtain ⟨hX1, hi, hO1, hS1⟩ := hI_
      refine C.weaken (l' := [(0, .int .i64 n), (1, .pointer (some ⟨g, 0, none⟩)), (6, .slice (some ⟨g18, 0, none⟩) N N), (20, .int .i64 (N : Int)), (21, .int .i64 (i : Int))]) (Sub.cons (rfl) (Sub.cons (rfl) (Sub.cons (rfl) (Sub.cons (rfl) (Sub.cons (rfl) (Sub.nil)))))) ?_
      refine C.seq ?_
      refine C.region ?_
      refine W.lssI rfl rfl rfl ?_
      refine W.nil ?_
      refine At.thenCode ?_
      refine C.seq ?_
      first | refine C.condD rfl (fun c22 => ?_) (fun c22 => ?_) | refine C.cond rfl (fun c22 => ?_) (fun c22 => ?_)
      · refine C.skip ?_
        refine At.thenCode ?_
        refine C.seq ?_
        refine C.block ?_
        refine C.seq ?_
        refine C.region ?_
        refine W.move rfl rfl ?_
        refine W.assign rfl rfl ?_
        refine W.nil ?_
        refine At.thenCode ?_
        refine C.region ?_
        refine W.move rfl rfl ?_
        refine W.move rfl rfl ?_
        refine W.move rfl rfl ?_
        refine W.indexS (i := (i : Int)) XI Try.underlying48 rfl (own_slz hO1) rfl ⟨by omega, by omega⟩ rfl ?_
        intro ad27 _ had27 _
        obtain rfl : ad27 = ⟨g18, i, none⟩ := by rw [had27 _ rfl, add_mk, Int.toNat_natCast, Nat.zero_add, Nat.mul_one]
        refine W.storeO rfl rfl rfl hO1 (by omega) (by kernel_rfl) ?_
        intro w7 hc7 hO7
        rw [z_set, idP_set (by omega)] at hO7
        refine W.nil ?_
        refine At.blockNormal ?_
        refine At.thenCode ?_
        refine C.region ?_
        first | refine W.addI rfl rfl (by omega) rfl ?_ | refine W.addW rfl rfl rfl ?_
        refine W.move rfl rfl ?_
        refine W.nil ?_
        refine At.thenRound (i + 1) (Sub.cons (rfl) (Sub.cons (rfl) (Sub.cons (rfl) (Sub.cons (rfl) (Sub.cons (rfl) (Sub.nil)))))) (show Ext w _ ∧ (i + 1) ≤ N ∧ World.ownsRow _ w.heap.size 3 1 (.slice (some ⟨g18, 0, none⟩) N N) N ((idP N (i + 1)).map (.int .i64)) ∧ St _ g seed name 0 from ?_) (show N - (i + 1) < N - i from ?_)
        · exact ⟨hX1.news hc7 (fun k hk => Or.inr (by omega)), by omega, hO7, hS1.chg hc7 (by omega)⟩
        · omega
      · obtain rfl : i = N := by omega
        refine C.exit ?_
        refine At.thenExit ?_
        refine At.thenExit ?_
        refine At.blockSelf ?_
        refine At.thenCode ?_
        refine C.seq ?_
        refine C.seq ?_
        refine C.region ?_
        refine W.move rfl rfl ?_
        first | refine W.subI rfl rfl (by omega) rfl ?_ | refine W.subW rfl rfl rfl ?_
        refine W.assign rfl rfl ?_
        refine W.nil ?_
        refine At.thenCode ?_
        refine C.block ?_
        refine C.loop (X := Int × Nat × Nat × (List Int)) (fun x_ => [(1, .pointer (some ⟨g, 0, none⟩)), (6, .slice (some ⟨g18, 0, none⟩) i i), (8, .int .i64 x_.1)]) (fun x_ w2 => Chg (fun q => q = g) w w2 ∧ x_.2.2.2.length = i ∧ (x_.2.1 < i ∨ x_.2.1 = 0) ∧ (x_.1 = ((x_.2.1 : Nat) : Int) ∨ (x_.1 = -1 ∧ x_.2.1 = 0)) ∧ World.ownsRow w2 w.heap.size 3 1 (.slice (some ⟨g18, 0, none⟩) i i) i (x_.2.2.2.map (.int .i64)) ∧ St w2 g seed name x_.2.2.1 ∧ x_.2.2.1 + 64 * x_.2.1 ≤ 64000 ∧ shE f (i - 1) 0 = shE f x_.2.1 x_.2.2.1 ∧ shL f (i - 1) 0 (idL i) = shL f x_.2.1 x_.2.2.1 x_.2.2.2) (fun x_ => x_.2.1) (n - 1, i - 1, 0, idL i) (Sub.cons (rfl) (Sub.cons (rfl) (Sub.cons (rfl) (Sub.nil)))) ?start2 ?_
        case start2 =>
          show Chg (fun q => q = g) w _ ∧ (idL i).length = i ∧ ((i - 1) < i ∨ (i - 1) = 0) ∧ ((n - 1) = (((i - 1) : Nat) : Int) ∨ ((n - 1) = -1 ∧ (i - 1) = 0)) ∧ World.ownsRow _ w.heap.size 3 1 (.slice (some ⟨g18, 0, none⟩) i i) i ((idL i).map (.int .i64)) ∧ St _ g seed name (0) ∧ (0) + 64 * (i - 1) ≤ 64000 ∧ shE f (i - 1) 0 = shE f (i - 1) (0) ∧ shL f (i - 1) 0 (idL i) = shL f (i - 1) (0) (idL i)
          exact ⟨hX1.mono fun _ x => x.elim, idL_length i, by omega, by omega, hO1, hS1, by omega, rfl, rfl⟩
        rintro ⟨z, k, a, L⟩ w2 hI_
        replace hI_ : Chg (fun q => q = g) w w2 ∧ L.length = i ∧ (k < i ∨ k = 0) ∧ (z = ((k : Nat) : Int) ∨ (z = -1 ∧ k = 0)) ∧ World.ownsRow w2 w.heap.size 3 1 (.slice (some ⟨g18, 0, none⟩) i i) i (L.map (.int .i64)) ∧ St w2 g seed name a ∧ a + 64 * k ≤ 64000 ∧ shE f (i - 1) 0 = shE f k a ∧ shL f (i - 1) 0 (idL i) = shL f k a L := hI_
        obtain ⟨hC, hL, hk, hz, hO, hS3, ha, hsE, hsL⟩ := hI_
        refine C.weaken (l' := [(1, .pointer (some ⟨g, 0, none⟩)), (6, .slice (some ⟨g18, 0, none⟩) i i), (8, .int .i64 z)]) (Sub.cons (rfl) (Sub.cons (rfl) (Sub.cons (rfl) (Sub.nil)))) ?_
        refine C.seq ?_
        refine C.seq ?_
        refine C.region ?_
        refine W.move rfl rfl ?_
        refine W.gtrI rfl rfl rfl ?_
        refine W.nil ?_
        refine At.thenCode ?_
        first | refine C.condD rfl (fun c32 => ?_) (fun c32 => ?_) | refine C.cond rfl (fun c32 => ?_) (fun c32 => ?_)
        · obtain ⟨q, hkq⟩ : ∃ q, k = q + 1 := ⟨k - 1, by omega⟩
          have hzq : z = ((q + 1 : Nat) : Int) := by omega
          rw [hkq, shE] at hsE
          rw [hkq, shL] at hsL
          have hqi : q + 1 < i := by omega
          refine C.skip ?_
          refine At.thenCode ?_
          refine C.seq ?_
          refine C.block ?_
          refine C.seq ?_
          refine C.region ?_
          refine W.move rfl rfl ?_
          refine W.move rfl rfl ?_
          first | refine W.convIN (M := 18446744073709551616) rfl Try.underlying3 Try.underlying30 rfl rfl (by omega) rfl ?_ | refine W.convIU (M := 18446744073709551616) rfl Try.underlying3 Try.underlying30 rfl rfl rfl ?_
          refine W.eqv (v' := .int .u64 ((q + 1 : Nat) : Int)) (iV (by omega)) ?_
          refine W.addU (M := 18446744073709551616) (n := 1) rfl rfl rfl rfl rfl ?_
          refine W.eqv (v' := .int .u64 ((q + 2 : Nat) : Int)) (iV (by unfold addM; omega)) ?_
          refine W.call Try.call18 rfl (Beacon.Next_ok g seed name a (q + 2) _ hs hn (by omega) hS3 (by omega)) rfl ?_
          rintro v40 w40 ⟨rfl, hS40, hc40⟩
          rw [← hf] at hS40 ⊢
          have hal := nextI_le f (q + 2) a
          have hxl := nextX_lt (f := f) (n := q + 2) (i := a)
          obtain ⟨X, hX⟩ : ∃ X, X = nextX f (q + 2) a := ⟨_, rfl⟩
          obtain ⟨E, hE⟩ : ∃ E, E = nextE f (q + 2) a := ⟨_, rfl⟩
          rw [← hX] at hxl hsL ⊢
          rw [← hE] at hxl hsE ⊢
          obtain ⟨base0, hb0⟩ : ∃ base0, base0 = w.heap.size := ⟨_, rfl⟩
          have hO40 := ownsRow_chg hO hc40 (fun k hk h => by have h2 : g18 = k := Option.some.inj hk; omega)
          rw [← hb0] at hO40
          refine W.move rfl rfl ?_
          refine W.extract rfl rfl rfl ?_
          refine W.extract rfl rfl rfl ?_
          refine W.assign rfl rfl ?_
          refine W.assign rfl rfl ?_
          refine W.nil ?_
          refine At.thenCode ?_
          refine C.seq ?_
          refine C.seq ?_
          refine C.region ?_
          refine W.move rfl rfl ?_
          refine W.neqI rfl rfl rfl ?_
          refine W.nil ?_
          refine At.thenCode ?_
          first | refine C.condD rfl (fun c44 => ?_) (fun c44 => ?_) | refine C.cond rfl (fun c44 => ?_) (fun c44 => ?_)
          · refine C.seq ?_
            refine C.region ?_
            refine W.move rfl rfl ?_
            refine W.assign rfl rfl ?_
            refine W.assign rfl rfl ?_
            refine W.nil ?_
            refine At.thenCode ?_
            refine C.ret ?_
            refine At.thenRet ?_
            refine At.blockRet ?_
            refine At.thenRet ?_
            refine At.thenRet ?_
            refine At.blockRet ?_
            refine At.thenRet ?_
            refine At.ret2 Try.results25 rfl rfl ?_
            first
            | (have hbad := ofE_bad (f := f) (n := n) (by omega)
               exact ⟨by have := OfR.err (base := w.heap.size) (w := w) hbad.2; rw [hbad.1] at this; exact this, (Ext.refl w).mono fun _ x => x.elim⟩)
            | (have hE1 : ¬ E = 0 := by simpa using c44
               rw [if_neg hE1] at hsE
               rw [hsE] at hE0
               refine ⟨?_, hC.trans hc40⟩
               rw [← hE0]
               exact OfR.err (ofL_err (by rw [hE0]; exact hE1)))
            | (obtain rfl : k = 0 := by omega
               rw [shE] at hsE
               rw [shL] at hsL
               have hE1 : ofE f n = 0 := by rw [hE0, hsE]
               have hl := ofL_fit hE1
               rw [← hN, hsL] at hl
               refine ⟨⟨some ⟨g18, 0, none⟩, i, by rw [hl, hE1, hL], ?_, fun ad e => by obtain rfl := Option.some.inj e; show w.heap.size ≤ g18; omega⟩, hC⟩
               rw [hl]
               show Sl _ _ _ _ _ _
               rw [hL]
               exact own_slz hO)
          · have hE1 : E = 0 := by simpa using c44
            rw [if_pos hE1] at hsE
            have hXl := hxl hE1
            refine C.skip ?_
            refine At.thenCode ?_
            refine C.regionAnyB (fun k b => k = 13 ∧ b = g18) 14 ((fun v w => v = .slice (some ⟨g18, 0, none⟩) i i) :: (fun v w => v = .int .i64 z) :: (fun v w => v = .slice (some ⟨g18, 0, none⟩) i i) :: (fun v w => v = .int .u64 (X : Int)) :: (fun v w => v = .slice (some ⟨g18, 0, none⟩) i i) :: (fun v w => v = .int .u64 (X : Int)) :: (fun v w => v = .pointer (some ⟨g18, X, none⟩)) :: (fun v w => v = .int .i64 (L.getD X 0)) :: (fun v w => v = .slice (some ⟨g18, 0, none⟩) i i) :: (fun v w => v = .int .i64 z) :: (fun v w => v = .pointer (some ⟨g18, q + 1, none⟩)) :: (fun v w => v = .int .i64 (L.getD (q + 1) 0)) :: (fun v w => v = .pointer (some ⟨g18, q + 1, none⟩)) :: (fun v w => w.ownsRow base0 3 1 (.slice (some ⟨g18, 0, none⟩) i i) i ((L.set (q + 1) (L.getD X 0)).map (.int .i64))) :: []) [(1, .pointer (some ⟨g, 0, none⟩)), (6, .slice (some ⟨g18, 0, none⟩) i i), (8, .int .i64 z), (9, .int .u64 (X : Int))] [] (Sub.cons (rfl) (Sub.cons (rfl) (Sub.cons (rfl) (Sub.cons (rfl) (Sub.nil))))) (Sub.nil) (Sub.cons (rfl) (Sub.cons (rfl) (Sub.cons (rfl) (Sub.cons (rfl) (Sub.nil))))) (by kernel_rfl) rfl rfl rfl (And.intro (fun _ _ _ h _ => h) (And.intro (fun _ _ _ h _ => h) (And.intro (fun _ _ _ h _ => h) (And.intro (fun _ _ _ h _ => h) (And.intro (fun _ _ _ h _ => h) (And.intro (fun _ _ _ h _ => h) (And.intro (fun _ _ _ h _ => h) (And.intro (fun _ _ _ h _ => h) (And.intro (fun _ _ _ h _ => h) (And.intro (fun _ _ _ h _ => h) (And.intro (fun _ _ _ h _ => h) (And.intro (fun _ _ _ h _ => h) (And.intro (fun _ _ _ h _ => h) (And.intro (fun _ _ _ h g => ownsRow_ext h (FamPost.ext g (fun k q h1 h2 h3 => h1 h3.1))) (trivial))))))))))))))) ?_ ?_
            · refine And.intro ?_ ?_
              · intro L_ w15 hX_ hs_ hf_ hd_
                refine W.step [(6, _)] (Sub.cons (hs_ _ _ rfl) (Sub.refl _)) ?_
                refine W.move rfl rfl ?_
                refine W.nil ?_
                exact At.stepF (Fam.ofExt (Ext.refl _)) rfl
              refine And.intro ?_ ?_
              · intro L_ w15 hX_ hs_ hf_ hd_
                refine W.step [(8, _)] (Sub.cons (hs_ _ _ rfl) (Sub.refl _)) ?_
                refine W.move rfl rfl ?_
                refine W.nil ?_
                exact At.stepF (Fam.ofExt (Ext.refl _)) rfl
              refine And.intro ?_ ?_
              · intro L_ w15 hX_ hs_ hf_ hd_
                refine W.step [(6, _)] (Sub.cons (hs_ _ _ rfl) (Sub.refl _)) ?_
                refine W.move rfl rfl ?_
                refine W.nil ?_
                exact At.stepF (Fam.ofExt (Ext.refl _)) rfl
              refine And.intro ?_ ?_
              · intro L_ w15 hX_ hs_ hf_ hd_
                refine W.step [(9, _)] (Sub.cons (hs_ _ _ rfl) (Sub.refl _)) ?_
                refine W.move rfl rfl ?_
                refine W.nil ?_
                exact At.stepF (Fam.ofExt (Ext.refl _)) rfl
              refine And.intro ?_ ?_
              · intro L_ w15 hX_ hs_ hf_ hd_
                refine W.step [(6, _)] (Sub.cons (hs_ _ _ rfl) (Sub.refl _)) ?_
                refine W.move rfl rfl ?_
                refine W.nil ?_
                exact At.stepF (Fam.ofExt (Ext.refl _)) rfl
              refine And.intro ?_ ?_
              · intro L_ w15 hX_ hs_ hf_ hd_
                refine W.step [(9, _)] (Sub.cons (hs_ _ _ rfl) (Sub.refl _)) ?_
                refine W.move rfl rfl ?_
                refine W.nil ?_
                exact At.stepF (Fam.ofExt (Ext.refl _)) rfl
              refine And.intro ?_ ?_
              · intro L_ w15 hX_ hs_ hf_ hd_
                obtain ⟨v4, e4, r4⟩ := hd_ 4 rfl
                obtain rfl : (.slice (some ⟨g18, 0, none⟩) i i : Value) = v4 := Eq.symm r4
                obtain ⟨v5, e5, r5⟩ := hd_ 5 rfl
                obtain rfl : (.int .u64 (X : Int) : Value) = v5 := Eq.symm r5
                refine W.step [(50, _), (51, _)] (Sub.cons (e4 _ rfl) (Sub.cons (e5 _ rfl) (Sub.refl _))) ?_
                have hXe := FamPre.ext hX_ (fun k q h1 h2 h3 => dT_absurd h2 (by rw [h3.1]; kernel_rfl))
                refine W.indexS (i := (X : Int)) XI Try.underlying48 rfl ((own_slz hO40).ext hXe) rfl ⟨by omega, by omega⟩ rfl ?_
                intro ad52 _ had52 _
                obtain rfl : ad52 = ⟨g18, X, none⟩ := by rw [had52 _ rfl, add_mk, Int.toNat_natCast, Nat.zero_add, Nat.mul_one]
                refine W.nil ?_
                exact At.stepF (Fam.ofExt (Ext.refl _)) rfl
              refine And.intro ?_ ?_
              · intro L_ w15 hX_ hs_ hf_ hd_
                obtain ⟨v6, e6, r6⟩ := hd_ 6 rfl
                obtain rfl : (.pointer (some ⟨g18, X, none⟩) : Value) = v6 := Eq.symm r6
                refine W.step [(52, _)] (Sub.cons (e6 _ rfl) (Sub.refl _)) ?_
                have hXe := FamPre.ext hX_ (fun k q h1 h2 h3 => dT_absurd h2 (by rw [h3.1]; kernel_rfl))
                refine W.load (v := .int .i64 (L.getD X 0)) rfl Try.underlying3 rfl (at_z ((own_slz hO40).ext hXe) (by omega)) rfl ?_
                refine W.nil ?_
                exact At.stepF (Fam.ofExt (Ext.refl _)) rfl
              refine And.intro ?_ ?_
              · intro L_ w15 hX_ hs_ hf_ hd_
                refine W.step [(6, _)] (Sub.cons (hs_ _ _ rfl) (Sub.refl _)) ?_
                refine W.move rfl rfl ?_
                refine W.nil ?_
                exact At.stepF (Fam.ofExt (Ext.refl _)) rfl
              refine And.intro ?_ ?_
              · intro L_ w15 hX_ hs_ hf_ hd_
                refine W.step [(8, _)] (Sub.cons (hs_ _ _ rfl) (Sub.refl _)) ?_
                refine W.move rfl rfl ?_
                refine W.nil ?_
                exact At.stepF (Fam.ofExt (Ext.refl _)) rfl
              refine And.intro ?_ ?_
              · intro L_ w15 hX_ hs_ hf_ hd_
                obtain ⟨v8, e8, r8⟩ := hd_ 8 rfl
                obtain rfl : (.slice (some ⟨g18, 0, none⟩) i i : Value) = v8 := Eq.symm r8
                obtain ⟨v9, e9, r9⟩ := hd_ 9 rfl
                obtain rfl : (.int .i64 z : Value) = v9 := Eq.symm r9
                refine W.step [(54, _), (55, _)] (Sub.cons (e8 _ rfl) (Sub.cons (e9 _ rfl) (Sub.refl _))) ?_
                have hXe := FamPre.ext hX_ (fun k q h1 h2 h3 => dT_absurd h2 (by rw [h3.1]; kernel_rfl))
                refine W.indexS (i := z) XI Try.underlying48 rfl ((own_slz hO40).ext hXe) rfl ⟨by omega, by omega⟩ rfl ?_
                intro ad56 _ had56 _
                obtain rfl : ad56 = ⟨g18, q + 1, none⟩ := by rw [had56 _ rfl, add_mk, show z.toNat = q + 1 by omega, Nat.zero_add, Nat.mul_one]
                refine W.nil ?_
                exact At.stepF (Fam.ofExt (Ext.refl _)) rfl
              refine And.intro ?_ ?_
              · intro L_ w15 hX_ hs_ hf_ hd_
                obtain ⟨v10, e10, r10⟩ := hd_ 10 rfl
                obtain rfl : (.pointer (some ⟨g18, q + 1, none⟩) : Value) = v10 := Eq.symm r10
                refine W.step [(56, _)] (Sub.cons (e10 _ rfl) (Sub.refl _)) ?_
                have hXe := FamPre.ext hX_ (fun k q h1 h2 h3 => dT_absurd h2 (by rw [h3.1]; kernel_rfl))
                refine W.load (v := .int .i64 (L.getD (q + 1) 0)) rfl Try.underlying3 rfl (at_z ((own_slz hO40).ext hXe) (by omega)) rfl ?_
                refine W.nil ?_
                exact At.stepF (Fam.ofExt (Ext.refl _)) rfl
              refine And.intro ?_ ?_
              · intro L_ w15 hX_ hs_ hf_ hd_
                obtain ⟨v0, e0, r0⟩ := hd_ 0 rfl
                obtain rfl : (.slice (some ⟨g18, 0, none⟩) i i : Value) = v0 := Eq.symm r0
                obtain ⟨v1, e1, r1⟩ := hd_ 1 rfl
                obtain rfl : (.int .i64 z : Value) = v1 := Eq.symm r1
                refine W.step [(46, _), (47, _)] (Sub.cons (e0 _ rfl) (Sub.cons (e1 _ rfl) (Sub.refl _))) ?_
                have hXe := FamPre.ext hX_ (fun k q h1 h2 h3 => dT_absurd h2 (by rw [h3.1]; kernel_rfl))
                refine W.indexS (i := z) XI Try.underlying48 rfl ((own_slz hO40).ext hXe) rfl ⟨by omega, by omega⟩ rfl ?_
                intro ad58 _ had58 _
                obtain rfl : ad58 = ⟨g18, q + 1, none⟩ := by rw [had58 _ rfl, add_mk, show z.toNat = q + 1 by omega, Nat.zero_add, Nat.mul_one]
                refine W.nil ?_
                exact At.stepF (Fam.ofExt (Ext.refl _)) rfl
              refine And.intro ?_ ?_
              · intro L_ w15 hX_ hs_ hf_ hd_
                obtain ⟨v12, e12, r12⟩ := hd_ 12 rfl
                obtain rfl : (.pointer (some ⟨g18, q + 1, none⟩) : Value) = v12 := Eq.symm r12
                obtain ⟨v7, e7, r7⟩ := hd_ 7 rfl
                obtain rfl : (.int .i64 (L.getD X 0) : Value) = v7 := Eq.symm r7
                refine W.step [(58, _), (53, _)] (Sub.cons (e12 _ rfl) (Sub.cons (e7 _ rfl) (Sub.refl _))) ?_
                have hXe := FamPre.ext hX_ (fun k q h1 h2 h3 => h1 h3.1)
                refine W.storeO rfl rfl rfl (ownsRow_ext hO40 hXe) (by omega) (by kernel_rfl) ?_
                intro w13 hc13 hO13
                rw [z_set] at hO13
                refine W.nil ?_
                exact At.stepFN (Fam.of 13 (hc13.mono fun k hk => ⟨rfl, hk⟩)) hO13
              exact trivial
            · intro L_ w15 hX15 hs_ hv_
              obtain ⟨v2, e2, r2⟩ := hv_ 2 (by decide)
              obtain rfl : (.slice (some ⟨g18, 0, none⟩) i i : Value) = v2 := Eq.symm r2
              obtain ⟨v3, e3, r3⟩ := hv_ 3 (by decide)
              obtain rfl : (.int .u64 (X : Int) : Value) = v3 := Eq.symm r3
              obtain ⟨v11, e11, r11⟩ := hv_ 11 (by decide)
              obtain rfl : (.int .i64 (L.getD (q + 1) 0) : Value) = v11 := Eq.symm r11
              obtain ⟨v13, _, r13⟩ := hv_ 13 (by decide)
              refine W.weaken (l' := [(48, _), (49, _), (57, _), (1, _), (6, _), (8, _), (9, _)]) (Sub.cons (e2 _ rfl) (Sub.cons (e3 _ rfl) (Sub.cons (e11 _ rfl) (Sub.cons (hs_ _ _ rfl) (Sub.cons (hs_ _ _ rfl) (Sub.cons (hs_ _ _ rfl) (Sub.cons (hs_ _ _ rfl) (Sub.nil)))))))) ?_
              refine W.indexS (i := (X : Int)) XI Try.underlying48 rfl (own_slz r13) rfl ⟨by omega, by omega⟩ rfl ?_
              intro ad59 _ had59 _
              obtain rfl : ad59 = ⟨g18, X, none⟩ := by rw [had59 _ rfl, add_mk, Int.toNat_natCast, Nat.zero_add, Nat.mul_one]
              refine W.storeO rfl rfl rfl r13 (by omega) (by kernel_rfl) ?_
              intro w16 hc16 hO16
              rw [z_set] at hO16
              have hO16 : w16.ownsRow base0 3 1 (.slice (some ⟨g18, 0, none⟩) i i) i ((swapL L (q + 1) X).map (.int .i64)) := hO16
              have hC15 : Chg (fun k => k = g18) w40 w15 := Chg.mono hX15 fun k ⟨_, h⟩ => h.2
              have hCe := ((hC.trans hc40).news hC15 (fun k hk => Or.inr (by omega))).news hc16 (fun k hk => Or.inr (by omega))
              have hSe := (hS40.chg hC15 (by omega)).chg hc16 (by omega)
              refine W.nil ?_
              refine At.blockNormal ?_
              refine At.thenCode ?_
              refine C.region ?_
              refine W.move rfl rfl ?_
              first | refine W.subI rfl rfl (by omega) rfl ?_ | refine W.subW rfl rfl rfl ?_
              refine W.assign rfl rfl ?_
              refine W.nil ?_
              refine At.thenRound (((q : Nat) : Int), q, nextI f (q + 2) a, swapL L (q + 1) X) (Sub.cons (rfl) (Sub.cons (rfl) (Sub.cons (look_eq rfl (by rw [show z - 1 = ((q : Nat) : Int) by omega])) (Sub.nil)))) (show Chg (fun q => q = g) w _ ∧ (swapL L (q + 1) X).length = i ∧ ((q) < i ∨ (q) = 0) ∧ ((((q : Nat) : Int)) = (((q) : Nat) : Int) ∨ ((((q : Nat) : Int)) = -1 ∧ (q) = 0)) ∧ World.ownsRow _ w.heap.size 3 1 (.slice (some ⟨g18, 0, none⟩) i i) i ((swapL L (q + 1) X).map (.int .i64)) ∧ St _ g seed name (nextI f (q + 2) a) ∧ (nextI f (q + 2) a) + 64 * (q) ≤ 64000 ∧ shE f (i - 1) 0 = shE f (q) (nextI f (q + 2) a) ∧ shL f (i - 1) 0 (idL i) = shL f (q) (nextI f (q + 2) a) (swapL L (q + 1) X) from ?_) (show (q) < k from ?_)
              · exact ⟨hCe, by rw [swapL_length]; exact hL, by omega, Or.inl rfl, by rw [hb0] at hO16; exact hO16, hSe, by omega, hsE, hsL⟩
              · omega
        · refine C.exit ?_
          refine At.thenExit ?_
          refine At.thenExit ?_
          refine At.blockSelf ?_
          refine At.thenCode ?_
          refine C.seq ?_
          refine C.region ?_
          refine W.move rfl rfl ?_
          refine W.assign rfl rfl ?_
          refine W.assign rfl rfl ?_
          refine W.nil ?_
          refine At.thenCode ?_
          refine C.ret ?_
          refine At.ret2 Try.results25 rfl rfl ?_
          first
          | (have hbad := ofE_bad (f := f) (n := n) (by omega)
             exact ⟨by have := OfR.err (base := w.heap.size) (w := w) hbad.2; rw [hbad.1] at this; exact this, (Ext.refl w).mono fun _ x => x.elim⟩)
          | (have hE1 : ¬ E = 0 := by simpa using c44
             rw [if_neg hE1] at hsE
             rw [hsE] at hE0
             refine ⟨?_, hC.trans hc40⟩
             rw [← hE0]
             exact OfR.err (ofL_err (by rw [hE0]; exact hE1)))
          | (obtain rfl : k = 0 := by omega
             rw [shE] at hsE
             rw [shL] at hsL
             have hE1 : ofE f n = 0 := by rw [hE0, hsE]
             have hl := ofL_fit hE1
             rw [← hN, hsL] at hl
             refine ⟨⟨some ⟨g18, 0, none⟩, i, by rw [hl, hE1, hL], ?_, fun ad e => by obtain rfl := Option.some.inj e; show w.heap.size ≤ g18; omega⟩, hC⟩
             rw [hl]
             show Sl _ _ _ _ _ _
             rw [hL]
             exact own_slz hO)
theorem ownz_head {w : World} {base : Nat} {v : Value} {L : List Int} (h : Oz w base v L) : ∃ ao c, v = .slice ao L.length c ∧ (L ≠ [] → ∃ g, ao = some ⟨g, 0, none⟩ ∧ base ≤ g ∧ g < w.heap.size) := by
  rcases h.2 with ⟨rfl, hn⟩ | ⟨g, cap, cur, rfl, hb, hg, hnc, hcm, hcs, htake⟩
  · obtain rfl : L = [] := List.eq_nil_of_length_eq_zero hn
    exact ⟨none, 0, rfl, fun c => absurd rfl c⟩
  · exact ⟨_, _, rfl, fun _ => ⟨g, rfl, hb, (Array.getElem?_eq_some_iff.1 hg).1⟩⟩
theorem at_zo {w : World} {ao : Option Addr} {g n c i : Nat} {L : List Int} (h : Sl w ao n c 1 (L.map (.int .i64))) (hq : ao = some ⟨g, 0, none⟩) (hi : i < L.length) : w.cell? ⟨g, i, none⟩ = some (.int .i64 (L.getD i 0)) := by
  subst hq; exact at_z h hi
theorem Order_ok (g : Nat) (seed name : List UInt8) (n : Int) (w : World) (hs : seed.length = 32) (hn : name.length ≤ 100000) (hS : RSt w g seed name 0) (hb : -9223372036854775808 ≤ n ∧ n ≤ 9223372036854775807) :
    Ct Try.prog 26 #[.int .i64 n, .pointer (some ⟨g, 0, none⟩)] w (fun v w' => OfR (wordV seed name) n w.heap.size v w' ∧ Chg (fun k => k = g) w w') := by
  refine Ct.enter [(0, .int .i64 n), (1, .pointer (some ⟨g, 0, none⟩))] Try.func26 rfl rfl rfl rfl ?_
  have hgl := hS.lt
  obtain ⟨f, hf⟩ : ∃ f, f = wordV seed name := ⟨_, rfl⟩
  obtain ⟨N, hN⟩ : ∃ N : Nat, N = n.toNat := ⟨_, rfl⟩
  rw [← hf]
  refine C.seq ?_
  refine C.region ?_
  refine W.assign rfl rfl ?_
  refine W.assign rfl rfl ?_
  refine W.nil ?_
  refine At.thenCode ?_
  refine C.seq ?_
  refine C.seq ?_
  refine C.region ?_
  refine W.move rfl rfl ?_
  refine W.lssI rfl rfl rfl ?_
  refine W.move rfl rfl ?_
  first | refine W.splitD (fun g14 => ?_) (fun g14 => ?_) | refine W.splitB (fun g14 => ?_) (fun g14 => ?_)
  · refine W.skips rfl rfl rfl rfl rfl rfl ?_
    refine W.skips rfl rfl rfl rfl rfl rfl ?_
    refine W.pickT rfl rfl rfl ?_
    refine W.nil ?_
    refine At.thenCode ?_
    refine C.condT rfl ?_
    refine C.seq ?_
    refine C.region ?_
    refine W.assign rfl rfl ?_
    refine W.assign rfl rfl ?_
    refine W.nil ?_
    refine At.thenCode ?_
    refine C.ret ?_
    refine At.thenRet ?_
    refine At.ret2 Try.results26 rfl rfl ?_
    first
    | (have hbad := ofE_bad (f := f) (n := n) (by omega)
       exact ⟨by have := OfR.err (base := w.heap.size) (w := w) hbad.2; rw [hbad.1] at this; exact this, (Ext.refl w).mono fun _ x => x.elim⟩)
    | (have hE1 : ¬ E = 0 := by simpa using c42
       rw [if_neg hE1] at hsE
       rw [hsE] at hE0
       refine ⟨?_, hC.trans hc40⟩
       rw [← hE0]
       exact OfR.err (ofL_err (by rw [hE0]; exact hE1)))
    | (obtain rfl : k = 0 := by omega
       rw [shE] at hsE
       rw [shL] at hsL
       have hE1 : ofE f n = 0 := by rw [hE0, hsE]
       have hl := ofL_fit hE1
       rw [← hN, hsL] at hl
       refine ⟨⟨ao, c, by rw [hl, hE1, hL], ?_, fun ad e => ?_⟩, hC⟩
       · rw [hl]
         show Sl _ _ _ _ _ _
         rw [hL]
         exact own_slz hO
       · obtain ⟨_, _, he, _, hb⟩ := ownsRow_form hO
         injection he with h1 _ _
         exact hb ad (by rw [← h1]; exact e))
  · refine W.wants rfl rfl rfl rfl ?_
    refine W.move rfl rfl ?_
    refine W.wants rfl rfl rfl rfl ?_
    refine W.gtrI rfl rfl rfl ?_
    refine W.pickF rfl rfl rfl ?_
    refine W.nil ?_
    refine At.thenCode ?_
    first | refine C.condD rfl (fun c17 => ?_) (fun c17 => ?_) | refine C.cond rfl (fun c17 => ?_) (fun c17 => ?_)
    · refine C.seq ?_
      refine C.region ?_
      refine W.assign rfl rfl ?_
      refine W.assign rfl rfl ?_
      refine W.nil ?_
      refine At.thenCode ?_
      refine C.ret ?_
      refine At.thenRet ?_
      refine At.ret2 Try.results26 rfl rfl ?_
      first
      | (have hbad := ofE_bad (f := f) (n := n) (by omega)
         exact ⟨by have := OfR.err (base := w.heap.size) (w := w) hbad.2; rw [hbad.1] at this; exact this, (Ext.refl w).mono fun _ x => x.elim⟩)
      | (have hE1 : ¬ E = 0 := by simpa using c42
         rw [if_neg hE1] at hsE
         rw [hsE] at hE0
         refine ⟨?_, hC.trans hc40⟩
         rw [← hE0]
         exact OfR.err (ofL_err (by rw [hE0]; exact hE1)))
      | (obtain rfl : k = 0 := by omega
         rw [shE] at hsE
         rw [shL] at hsL
         have hE1 : ofE f n = 0 := by rw [hE0, hsE]
         have hl := ofL_fit hE1
         rw [← hN, hsL] at hl
         refine ⟨⟨ao, c, by rw [hl, hE1, hL], ?_, fun ad e => ?_⟩, hC⟩
         · rw [hl]
           show Sl _ _ _ _ _ _
           rw [hL]
           exact own_slz hO
         · obtain ⟨_, _, he, _, hb⟩ := ownsRow_form hO
           injection he with h1 _ _
           exact hb ad (by rw [← h1]; exact e))
    · have hok : ¬ (n < 0 ∨ 1000 < n) := by omega
      have hE0 := ofE_sh (f := f) hok
      rw [← hN] at hE0
      refine C.skip ?_
      refine At.thenCode ?_
      refine C.seq ?_
      refine C.region ?_
      refine W.assign rfl rfl ?_
      refine W.nil ?_
      refine At.thenCode ?_
      refine C.seq ?_
      refine C.seq ?_
      refine C.region ?_
      refine W.assign rfl rfl ?_
      refine W.nil ?_
      refine At.thenCode ?_
      refine C.block ?_
      refine C.loop (X := Nat × Value) (fun x_ => [(0, .int .i64 n), (1, .pointer (some ⟨g, 0, none⟩)), (6, x_.2), (7, .int .i64 (x_.1 : Int))]) (fun x_ w1 => Ext w w1 ∧ x_.1 ≤ N ∧ Oz w1 w.heap.size x_.2 (idL x_.1) ∧ RSt w1 g seed name 0) (fun x_ => N - x_.1) (0, .slice none 0 0) (Sub.cons (rfl) (Sub.cons (rfl) (Sub.cons (rfl) (Sub.cons (rfl) (Sub.nil))))) ?start1 ?_
      case start1 =>
        show Ext w _ ∧ (0) ≤ N ∧ Oz _ w.heap.size (.slice none 0 0) (idL (0)) ∧ RSt _ g seed name 0
        exact ⟨Ext.refl _, by omega, World.ownsRow_nil _ _ _ _, hS⟩
      rintro ⟨i, v⟩ w1 hI_
      replace hI_ : Ext w w1 ∧ i ≤ N ∧ Oz w1 w.heap.size v (idL i) ∧ RSt w1 g seed name 0 := hI_
      obtain ⟨hX1, hi, hO1, hS1⟩ := hI_
      refine C.weaken (l' := [(0, .int .i64 n), (1, .pointer (some ⟨g, 0, none⟩)), (6, v), (7, .int .i64 (i : Int))]) (Sub.cons (rfl) (Sub.cons (rfl) (Sub.cons (rfl) (Sub.cons (rfl) (Sub.nil))))) ?_
      refine C.seq ?_
      refine C.seq ?_
      refine C.region ?_
      refine W.move rfl rfl ?_
      refine W.move rfl rfl ?_
      refine W.lssI rfl rfl rfl ?_
      refine W.nil ?_
      refine At.thenCode ?_
      first | refine C.condD rfl (fun c20 => ?_) (fun c20 => ?_) | refine C.cond rfl (fun c20 => ?_) (fun c20 => ?_)
      · refine C.skip ?_
        refine At.thenCode ?_
        refine C.seq ?_
        refine C.block ?_
        refine C.region ?_
        refine W.move rfl rfl ?_
        refine W.move rfl rfl ?_
        refine W.litV [.int .i64 (i : Int)] XI Try.underlying48 rfl rfl (fun u hu => by simp at hu; subst hu; rfl) rfl rfl rfl ?_
        intro g25 w25 hg25 hX25 _ hS25
        have hO25 := ownsRow_ext hO1 hX25
        have hil := idL_length i
        refine W.append XI Try.underlying48 rfl rfl hO25 hS25 (fun u hu => by simp at hu; subst hu; rfl) (by simp only [List.length_singleton]; omega) (by simp only [List.length_singleton]; omega) (by have := hX1.size; have := hX25.size; omega) rfl ?_
        intro v26 w26 ho26 hg26 _
        have hX26 : Ext w w26 := (hX1.ext hX25).news (Chg.of_grown hg26) (fun k hk => Or.inr ((World.ownsRow.lt hO25 k hk.symm).1))
        have hC26 : Chg (fun q => w25.heap.size ≤ q ∨ w.heap.size ≤ q) w25 w26 := (Chg.of_grown hg26).mono (fun k hk => Or.inr ((World.ownsRow.lt hO25 k hk.symm).1))
        have hs1 := hX1.size
        have hs25 := hX25.size
        refine W.assign rfl rfl ?_
        refine W.nil ?_
        refine At.blockNormal ?_
        refine At.thenCode ?_
        refine C.region ?_
        refine W.move rfl rfl ?_
        first | refine W.addI rfl rfl (by omega) rfl ?_ | refine W.addW rfl rfl rfl ?_
        refine W.assign rfl rfl ?_
        refine W.nil ?_
        refine At.thenRound (i + 1, v26) (Sub.cons (rfl) (Sub.cons (rfl) (Sub.cons (rfl) (Sub.cons (rfl) (Sub.nil))))) (show Ext w _ ∧ (i + 1) ≤ N ∧ Oz _ w.heap.size (v26) (idL (i + 1)) ∧ RSt _ g seed name 0 from ?_) (show N - (i + 1) < N - i from ?_)
        · refine ⟨hX26, by omega, ?_, (hS1.ext hX25).chg hC26 (by omega)⟩
          show World.ownsRow _ _ _ _ _ _ _
          rw [← idL_succ, List.length_append, List.map_append]
          exact ho26
        · omega
      · obtain rfl : i = N := by omega
        have hil := idL_length i
        obtain ⟨ao, c, rfl, hhd⟩ := ownz_head hO1
        have hO1 : w1.ownsRow w.heap.size 3 1 (.slice ao i c) i ((idL i).map (.int .i64)) := by have h := hO1; unfold Oz at h; rwa [hil] at h
        rw [hil]
        refine C.exit ?_
        refine At.thenExit ?_
        refine At.thenExit ?_
        refine At.blockSelf ?_
        refine At.thenCode ?_
        refine C.seq ?_
        refine C.seq ?_
        refine C.region ?_
        refine W.move rfl rfl ?_
        first | refine W.subI rfl rfl (by omega) rfl ?_ | refine W.subW rfl rfl rfl ?_
        refine W.assign rfl rfl ?_
        refine W.nil ?_
        refine At.thenCode ?_
        refine C.block ?_
        refine C.loop (X := Int × Nat × Nat × (List Int)) (fun x_ => [(1, .pointer (some ⟨g, 0, none⟩)), (6, .slice ao i c), (8, .int .i64 x_.1)]) (fun x_ w2 => Chg (fun q => q = g) w w2 ∧ x_.2.2.2.length = i ∧ (x_.2.1 < i ∨ x_.2.1 = 0) ∧ (x_.1 = ((x_.2.1 : Nat) : Int) ∨ (x_.1 = -1 ∧ x_.2.1 = 0)) ∧ World.ownsRow w2 w.heap.size 3 1 (.slice ao i c) i (x_.2.2.2.map (.int .i64)) ∧ RSt w2 g seed name x_.2.2.1 ∧ x_.2.2.1 + 64 * x_.2.1 ≤ 64000 ∧ shE f (i - 1) 0 = shE f x_.2.1 x_.2.2.1 ∧ shL f (i - 1) 0 (idL i) = shL f x_.2.1 x_.2.2.1 x_.2.2.2) (fun x_ => x_.2.1) (n - 1, i - 1, 0, idL i) (Sub.cons (rfl) (Sub.cons (rfl) (Sub.cons (rfl) (Sub.nil)))) ?start2 ?_
        case start2 =>
          show Chg (fun q => q = g) w _ ∧ (idL i).length = i ∧ ((i - 1) < i ∨ (i - 1) = 0) ∧ ((n - 1) = (((i - 1) : Nat) : Int) ∨ ((n - 1) = -1 ∧ (i - 1) = 0)) ∧ World.ownsRow _ w.heap.size 3 1 (.slice ao i c) i ((idL i).map (.int .i64)) ∧ RSt _ g seed name (0) ∧ (0) + 64 * (i - 1) ≤ 64000 ∧ shE f (i - 1) 0 = shE f (i - 1) (0) ∧ shL f (i - 1) 0 (idL i) = shL f (i - 1) (0) (idL i)
          exact ⟨hX1.mono fun _ x => x.elim, idL_length i, by omega, by omega, hO1, hS1, by omega, rfl, rfl⟩
        rintro ⟨z, k, a, L⟩ w2 hI_
        replace hI_ : Chg (fun q => q = g) w w2 ∧ L.length = i ∧ (k < i ∨ k = 0) ∧ (z = ((k : Nat) : Int) ∨ (z = -1 ∧ k = 0)) ∧ World.ownsRow w2 w.heap.size 3 1 (.slice ao i c) i (L.map (.int .i64)) ∧ RSt w2 g seed name a ∧ a + 64 * k ≤ 64000 ∧ shE f (i - 1) 0 = shE f k a ∧ shL f (i - 1) 0 (idL i) = shL f k a L := hI_
        obtain ⟨hC, hL, hk, hz, hO, hS3, ha, hsE, hsL⟩ := hI_
        refine C.weaken (l' := [(1, .pointer (some ⟨g, 0, none⟩)), (6, .slice ao i c), (8, .int .i64 z)]) (Sub.cons (rfl) (Sub.cons (rfl) (Sub.cons (rfl) (Sub.nil)))) ?_
        refine C.seq ?_
        refine C.seq ?_
        refine C.region ?_
        refine W.move rfl rfl ?_
        refine W.geqI rfl rfl rfl ?_
        refine W.nil ?_
        refine At.thenCode ?_
        first | refine C.condD rfl (fun c30 => ?_) (fun c30 => ?_) | refine C.cond rfl (fun c30 => ?_) (fun c30 => ?_)
        · obtain ⟨q, hkq⟩ : ∃ q, k = q + 1 := ⟨k - 1, by omega⟩
          have hzq : z = ((q + 1 : Nat) : Int) := by omega
          rw [hkq, shE] at hsE
          rw [hkq, shL] at hsL
          have hqi : q + 1 < i := by omega
          obtain ⟨g18, hq18, hb18, hl18⟩ := hhd (by intro h; rw [h] at hil; simp at hil; omega)
          refine C.skip ?_
          refine At.thenCode ?_
          refine C.seq ?_
          refine C.block ?_
          refine C.seq ?_
          refine C.region ?_
          refine W.move rfl rfl ?_
          refine W.move rfl rfl ?_
          first | refine W.addI rfl rfl (by omega) rfl ?_ | refine W.addW rfl rfl rfl ?_
          first | refine W.convIN (M := 18446744073709551616) rfl Try.underlying3 Try.underlying30 rfl rfl (by omega) rfl ?_ | refine W.convIU (M := 18446744073709551616) rfl Try.underlying3 Try.underlying30 rfl rfl rfl ?_
          refine W.eqv (v' := .int .u64 ((q + 2 : Nat) : Int)) (iV (by omega)) ?_
          refine W.call Try.call19 rfl (Beacon.RNext_ok g seed name a (q + 2) _ hs hn (by omega) hS3 (by omega)) rfl ?_
          rintro v38 w40 ⟨rfl, hS40, hc40⟩
          rw [← hf] at hS40 ⊢
          have hal := nextI_le f (q + 2) a
          have hxl := nextX_lt (f := f) (n := q + 2) (i := a)
          obtain ⟨X, hX⟩ : ∃ X, X = nextX f (q + 2) a := ⟨_, rfl⟩
          obtain ⟨E, hE⟩ : ∃ E, E = nextE f (q + 2) a := ⟨_, rfl⟩
          rw [← hX] at hxl hsL ⊢
          rw [← hE] at hxl hsE ⊢
          have hO40 := ownsRow_chg hO hc40 (fun k hk h => by rw [hq18] at hk; have h2 : g18 = k := Option.some.inj hk; omega)
          have hOq : w40.ownsRow w.heap.size 3 1 (.slice (some ⟨g18, 0, none⟩) i c) i (L.map (.int .i64)) := by rw [← hq18]; exact hO40
          refine W.move rfl rfl ?_
          refine W.extract rfl rfl rfl ?_
          refine W.extract rfl rfl rfl ?_
          refine W.assign rfl rfl ?_
          refine W.assign rfl rfl ?_
          refine W.nil ?_
          refine At.thenCode ?_
          refine C.seq ?_
          refine C.seq ?_
          refine C.region ?_
          refine W.move rfl rfl ?_
          refine W.neqI rfl rfl rfl ?_
          refine W.nil ?_
          refine At.thenCode ?_
          first | refine C.condD rfl (fun c42 => ?_) (fun c42 => ?_) | refine C.cond rfl (fun c42 => ?_) (fun c42 => ?_)
          · refine C.seq ?_
            refine C.region ?_
            refine W.move rfl rfl ?_
            refine W.assign rfl rfl ?_
            refine W.assign rfl rfl ?_
            refine W.nil ?_
            refine At.thenCode ?_
            refine C.ret ?_
            refine At.thenRet ?_
            refine At.blockRet ?_
            refine At.thenRet ?_
            refine At.thenRet ?_
            refine At.blockRet ?_
            refine At.thenRet ?_
            refine At.ret2 Try.results26 rfl rfl ?_
            first
            | (have hbad := ofE_bad (f := f) (n := n) (by omega)
               exact ⟨by have := OfR.err (base := w.heap.size) (w := w) hbad.2; rw [hbad.1] at this; exact this, (Ext.refl w).mono fun _ x => x.elim⟩)
            | (have hE1 : ¬ E = 0 := by simpa using c42
               rw [if_neg hE1] at hsE
               rw [hsE] at hE0
               refine ⟨?_, hC.trans hc40⟩
               rw [← hE0]
               exact OfR.err (ofL_err (by rw [hE0]; exact hE1)))
            | (obtain rfl : k = 0 := by omega
               rw [shE] at hsE
               rw [shL] at hsL
               have hE1 : ofE f n = 0 := by rw [hE0, hsE]
               have hl := ofL_fit hE1
               rw [← hN, hsL] at hl
               refine ⟨⟨ao, c, by rw [hl, hE1, hL], ?_, fun ad e => ?_⟩, hC⟩
               · rw [hl]
                 show Sl _ _ _ _ _ _
                 rw [hL]
                 exact own_slz hO
               · obtain ⟨_, _, he, _, hb⟩ := ownsRow_form hO
                 injection he with h1 _ _
                 exact hb ad (by rw [← h1]; exact e))
          · have hE1 : E = 0 := by simpa using c42
            rw [if_pos hE1] at hsE
            have hXl := hxl hE1
            refine C.skip ?_
            refine At.thenCode ?_
            refine C.seq ?_
            refine C.region ?_
            refine W.move rfl rfl ?_
            refine W.move rfl rfl ?_
            refine W.indexS (i := z) XI Try.underlying48 rfl (own_slz hO40) rfl ⟨by omega, by omega⟩ rfl ?_
            intro ad46 _ had46 _
            obtain rfl : ad46 = ⟨g18, q + 1, none⟩ := by rw [had46 _ hq18, add_mk, show z.toNat = q + 1 by omega, Nat.zero_add, Nat.mul_one]
            refine W.load (v := .int .i64 (L.getD (q + 1) 0)) rfl Try.underlying3 rfl (at_zo (own_slz hO40) hq18 (by omega)) rfl ?_
            refine W.assign rfl rfl ?_
            refine W.nil ?_
            refine At.thenCode ?_
            refine C.seq ?_
            refine C.region ?_
            refine W.move rfl rfl ?_
            refine W.move rfl rfl ?_
            refine W.move rfl rfl ?_
            refine W.move rfl rfl ?_
            refine W.indexS (i := (X : Int)) XI Try.underlying48 rfl (own_slz hO40) rfl ⟨by omega, by omega⟩ rfl ?_
            intro ad52 _ had52 _
            obtain rfl : ad52 = ⟨g18, X, none⟩ := by rw [had52 _ hq18, add_mk, Int.toNat_natCast, Nat.zero_add, Nat.mul_one]
            refine W.load (v := .int .i64 (L.getD X 0)) rfl Try.underlying3 rfl (at_zo (own_slz hO40) hq18 (by omega)) rfl ?_
            refine W.indexS (i := z) XI Try.underlying48 rfl (own_slz hO40) rfl ⟨by omega, by omega⟩ rfl ?_
            intro ad54 _ had54 _
            obtain rfl : ad54 = ⟨g18, q + 1, none⟩ := by rw [had54 _ hq18, add_mk, show z.toNat = q + 1 by omega, Nat.zero_add, Nat.mul_one]
            refine W.storeO rfl rfl rfl hOq (by omega) (by kernel_rfl) ?_
            intro w13 hc13 hO13
            rw [z_set] at hO13
            refine W.nil ?_
            refine At.thenCode ?_
            refine C.region ?_
            refine W.move rfl rfl ?_
            refine W.move rfl rfl ?_
            refine W.move rfl rfl ?_
            refine W.indexS (i := (X : Int)) XI Try.underlying48 rfl (by rw [hq18]; exact own_slz hO13) rfl ⟨by omega, by omega⟩ rfl ?_
            intro ad58 _ had58 _
            obtain rfl : ad58 = ⟨g18, X, none⟩ := by rw [had58 _ hq18, add_mk, Int.toNat_natCast, Nat.zero_add, Nat.mul_one]
            refine W.storeO rfl rfl rfl hO13 (by omega) (by kernel_rfl) ?_
            intro w16 hc16 hO16
            rw [z_set] at hO16
            have hO16 : w16.ownsRow w.heap.size 3 1 (.slice (some ⟨g18, 0, none⟩) i c) i ((swapL L (q + 1) X).map (.int .i64)) := hO16
            rw [← hq18] at hO16
            have hCe := ((hC.trans hc40).news hc13 (fun k hk => Or.inr (by have := hX1.size; omega))).news hc16 (fun k hk => Or.inr (by have := hX1.size; omega))
            refine W.nil ?_
            refine At.blockNormal ?_
            refine At.thenCode ?_
            refine C.region ?_
            refine W.move rfl rfl ?_
            first | refine W.subI rfl rfl (by omega) rfl ?_ | refine W.subW rfl rfl rfl ?_
            refine W.assign rfl rfl ?_
            refine W.nil ?_
            refine At.thenRound (((q : Nat) : Int), q, nextI f (q + 2) a, swapL L (q + 1) X) (Sub.cons (rfl) (Sub.cons (rfl) (Sub.cons (look_eq rfl (by rw [show z - 1 = ((q : Nat) : Int) by omega])) (Sub.nil)))) (show Chg (fun q => q = g) w _ ∧ (swapL L (q + 1) X).length = i ∧ ((q) < i ∨ (q) = 0) ∧ ((((q : Nat) : Int)) = (((q) : Nat) : Int) ∨ ((((q : Nat) : Int)) = -1 ∧ (q) = 0)) ∧ World.ownsRow _ w.heap.size 3 1 (.slice ao i c) i ((swapL L (q + 1) X).map (.int .i64)) ∧ RSt _ g seed name (nextI f (q + 2) a) ∧ (nextI f (q + 2) a) + 64 * (q) ≤ 64000 ∧ shE f (i - 1) 0 = shE f (q) (nextI f (q + 2) a) ∧ shL f (i - 1) 0 (idL i) = shL f (q) (nextI f (q + 2) a) (swapL L (q + 1) X) from ?_) (show (q) < k from ?_)
            · exact ⟨hCe, by rw [swapL_length]; exact hL, by omega, Or.inl rfl, hO16, (hS40.chg hc13 (by omega)).chg hc16 (by omega), by omega, hsE, hsL⟩
            · omega
        · refine C.exit ?_
          refine At.thenExit ?_
          refine At.thenExit ?_
          refine At.blockSelf ?_
          refine At.thenCode ?_
          refine C.seq ?_
          refine C.region ?_
          refine W.move rfl rfl ?_
          refine W.assign rfl rfl ?_
          refine W.assign rfl rfl ?_
          refine W.nil ?_
          refine At.thenCode ?_
          refine C.ret ?_
          refine At.ret2 Try.results26 rfl rfl ?_
          first
          | (have hbad := ofE_bad (f := f) (n := n) (by omega)
             exact ⟨by have := OfR.err (base := w.heap.size) (w := w) hbad.2; rw [hbad.1] at this; exact this, (Ext.refl w).mono fun _ x => x.elim⟩)
          | (have hE1 : ¬ E = 0 := by simpa using c42
             rw [if_neg hE1] at hsE
             rw [hsE] at hE0
             refine ⟨?_, hC.trans hc40⟩
             rw [← hE0]
             exact OfR.err (ofL_err (by rw [hE0]; exact hE1)))
          | (obtain rfl : k = 0 := by omega
             rw [shE] at hsE
             rw [shL] at hsL
             have hE1 : ofE f n = 0 := by rw [hE0, hsE]
             have hl := ofL_fit hE1
             rw [← hN, hsL] at hl
             refine ⟨⟨ao, c, by rw [hl, hE1, hL], ?_, fun ad e => ?_⟩, hC⟩
             · rw [hl]
               show Sl _ _ _ _ _ _
               rw [hL]
               exact own_slz hO
             · obtain ⟨_, _, he, _, hb⟩ := ownsRow_form hO
               injection he with h1 _ _
               exact hb ad (by rw [← h1]; exact e))
end Go.Proofs.Ytomfnficblnngaa.Perm
