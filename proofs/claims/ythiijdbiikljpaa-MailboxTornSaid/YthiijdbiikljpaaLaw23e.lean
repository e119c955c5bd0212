/- Chapter 23: the walk of its law on rounds. -/
import Derived.Test.YthiijdbiikljpaaLaw23c
import Derived.Test.YthiijdbiikljpaaInts
namespace Go.Proofs.Ythiijdbiikljpaa.Law23
open Go Go.RowKit Go.Proofs.Ythiijdbiikljpaa.KW Go.Proofs.Ythiijdbiikljpaa.Words Go.Proofs.Ythiijdbiikljpaa.Sha Go.Proofs.Ythiijdbiikljpaa.RSha Go.Proofs.Ythiijdbiikljpaa.Grp Go.Proofs.Ythiijdbiikljpaa.Cod Go.Proofs.Ythiijdbiikljpaa.Disk Go.Proofs.Ythiijdbiikljpaa.Mbx
open Go.Proofs.Ythiijdbiikljpaa.Ints (PtI PtI.ext Oz)
set_option linter.unusedVariables false
set_option linter.unusedSimpArgs false
set_option maxRecDepth 100000
def pickL (xs : List Int) (r : Int) : List Int := if r ∈ xs then [r] else []
theorem pick_same (xs : List Int) (r : Int) : decide ([r] = pickL xs r) = decide (r ∈ xs) := by
  unfold pickL
  by_cases h : r ∈ xs
  · rw [if_pos h]; simp [h]
  · rw [if_neg h]; simp [h]
theorem pick_ok (ao : Option Addr) (c : Nat) (xs : List Int) (r : Int) (w : World) (hS : Zs w ao c xs) (hl : xs.length ≤ 1000000) :
    Ct Try.prog 13 #[.slice ao xs.length c, .int .i64 r] w (fun v w' => ∃ a c', v = .slice a (pickL xs r).length c' ∧ Zs w' a c' (pickL xs r) ∧ Ext w w') := by
  refine Ct.enter [(0, .slice ao xs.length c), (1, .int .i64 r)] Try.func13 rfl rfl rfl rfl ?_
  refine C.seq ?_
  refine C.region ?_
  refine W.assign rfl rfl ?_
  refine W.nil ?_
  refine At.thenCode ?_
  refine C.seq ?_
  refine C.seq ?_
  refine C.region ?_
  refine W.assign rfl rfl ?_
  refine W.nil ?_
  refine At.thenCode ?_
  refine C.block ?_
  refine C.loop (X := Nat) (fun x_ => [(0, .slice ao xs.length c), (1, .int .i64 r), (5, .int .i64 (x_ : Int))]) (fun x_ w1 => w = w1 ∧ x_ ≤ xs.length ∧ ¬ r ∈ xs.take x_) (fun x_ => xs.length - x_) (0) (Sub.cons (rfl) (Sub.cons (rfl) (Sub.cons (rfl) (Sub.nil)))) ?start1 ?_
  case start1 =>
    show w = _ ∧ (0) ≤ xs.length ∧ ¬ r ∈ xs.take (0)
    exact ⟨rfl, by omega, by simp⟩
  rintro i w1 hI_
  replace hI_ : w = w1 ∧ i ≤ xs.length ∧ ¬ r ∈ xs.take i := hI_
  obtain ⟨rfl, hi, hno⟩ := hI_
  refine C.weaken (l' := [(0, .slice ao xs.length c), (1, .int .i64 r), (5, .int .i64 (i : Int))]) (Sub.cons (rfl) (Sub.cons (rfl) (Sub.cons (rfl) (Sub.nil)))) ?_
  refine C.seq ?_
  refine C.seq ?_
  refine C.region ?_
  refine W.move rfl rfl ?_
  refine W.move rfl rfl ?_
  refine W.lenS rfl Try.underlying22 rfl ?_
  refine W.lssI rfl rfl rfl ?_
  refine W.nil ?_
  refine At.thenCode ?_
  first | refine C.condD rfl (fun c9 => ?_) (fun c9 => ?_) | refine C.cond rfl (fun c9 => ?_) (fun c9 => ?_)
  · have hlt : i < xs.length := by omega
    refine C.skip ?_
    refine At.thenCode ?_
    refine C.seq ?_
    refine C.block ?_
    refine C.seq ?_
    refine C.region ?_
    refine W.move rfl rfl ?_
    refine W.move rfl rfl ?_
    refine W.indexS (i := (i : Int)) XI Try.underlying22 rfl hS rfl ⟨by omega, by omega⟩ rfl ?_
    intro ad14 _ _ hq14
    have hc14 := hq14 0 (.int .i64 xs[i]) (by rw [List.getElem?_drop, Int.toNat_natCast, Nat.mul_one, Nat.add_zero, List.getElem?_map, List.getElem?_eq_getElem hlt]; rfl)
    rw [add_zero'] at hc14
    refine W.load (v := .int .i64 xs[i]) rfl Try.underlying3 rfl hc14 rfl ?_
    refine W.move rfl rfl ?_
    refine W.eqlI rfl rfl rfl ?_
    refine W.nil ?_
    refine At.thenCode ?_
    first | refine C.condD rfl (fun c17 => ?_) (fun c17 => ?_) | refine C.cond rfl (fun c17 => ?_) (fun c17 => ?_)
    · refine C.seq ?_
      refine C.region ?_
      refine W.move rfl rfl ?_
      refine W.litV [Value.int .i64 r] XI Try.underlying22 rfl rfl (by intro u hu; obtain rfl := List.mem_singleton.1 hu; rfl) rfl rfl rfl ?_
      intro g19 w19 hg19 hX19 _ hS19
      have hp : pickL xs r = [r] := by unfold pickL; rw [if_pos (by rw [← c17]; exact List.getElem_mem hlt)]
      refine W.assign rfl rfl ?_
      refine W.nil ?_
      refine At.thenCode ?_
      refine C.ret ?_
      refine At.blockRet ?_
      refine At.thenRet ?_
      refine At.thenRet ?_
      refine At.blockRet ?_
      refine At.thenRet ?_
      refine At.ret1 Try.results13 rfl ?_
      exact ⟨_, 1, by rw [hp]; rfl, by rw [hp]; exact hS19, hX19⟩
    · refine C.skip ?_
      refine At.blockNormal ?_
      refine At.thenCode ?_
      refine C.region ?_
      refine W.move rfl rfl ?_
      first | refine W.addI rfl rfl (by omega) rfl ?_ | refine W.addW rfl rfl rfl ?_
      refine W.assign rfl rfl ?_
      refine W.nil ?_
      refine At.thenRound (i + 1) (Sub.cons (rfl) (Sub.cons (rfl) (Sub.cons (look_eq rfl (iV (by omega))) (Sub.nil)))) (show w = _ ∧ (i + 1) ≤ xs.length ∧ ¬ r ∈ xs.take (i + 1) from ?_) (show xs.length - (i + 1) < xs.length - i from ?_)
      · refine ⟨rfl, by omega, ?_⟩
        rw [List.take_succ_eq_append_getElem hlt]
        intro h
        rcases List.mem_append.1 h with h | h
        · exact hno h
        · exact c17 (List.mem_singleton.1 h).symm
      · omega
  · have hi' : i = xs.length := by omega
    subst hi'
    rw [List.take_length] at hno
    have hp : pickL xs r = [] := by unfold pickL; rw [if_neg hno]
    refine C.exit ?_
    refine At.thenExit ?_
    refine At.thenExit ?_
    refine At.blockSelf ?_
    refine At.thenCode ?_
    refine C.seq ?_
    refine C.region ?_
    refine W.assign rfl rfl ?_
    refine W.nil ?_
    refine At.thenCode ?_
    refine C.ret ?_
    refine At.ret1 Try.results13 rfl ?_
    exact ⟨none, 0, by rw [hp]; rfl, by rw [hp]; exact Sl.none _ _, Ext.refl _⟩
def oB (r c : Int) : BatD := ⟨r, c, [], []⟩
theorem oB_ok {r c : Int} (hr : InI r) (hc : InI c) : BatOk (oB r c) := ⟨hr, hc, fun y hy => by simp [oB] at hy, fun p hp => by simp [oB] at hp⟩
theorem oB_e {r c : Int} (hr : 0 ≤ r) (hc : 0 ≤ c) : batE (oB r c) = 0 := by
  have h1 : ¬ r < 0 := by omega
  have h2 : ¬ c < 0 := by omega
  simp [batE, oB, longL, wrongL, h1, h2]
theorem oB_len {r c : Int} (hr : InI r) (hc : InI c) : (batB (oB r c)).length ≤ 60 := by
  have := batB_len (oB_ok hr hc) (m := 1) (fun p hp => by simp [oB] at hp)
  have h1 : (oB r c).inner.length = 0 := rfl
  have h2 : (oB r c).lets.length = 0 := rfl
  omega
theorem hasL_map (ks : List Int) (r : Int) : hasL (ks.map fun k => oB k 0) r 0 = decide (r ∈ ks) := by
  induction ks with
  | nil => rfl
  | cons k t ih =>
    have : hasL ((k :: t).map fun k => oB k 0) r 0 = (decide (k = r ∧ (0 : Int) = 0) || hasL (t.map fun k => oB k 0) r 0) := rfl
    rw [this, ih, Bool.eq_iff_iff]
    simp only [Bool.or_eq_true, decide_eq_true_eq, List.mem_cons]
    constructor
    · rintro (⟨h, _⟩ | h)
      · exact .inl h.symm
      · exact .inr h
    · rintro (h | h)
      · exact .inl ⟨h.symm, trivial⟩
      · exact .inr h
structure RndP (ks : List Int) (i : Nat) (B : Box) (ps : List (List UInt8)) : Prop where
  good : Mbx.Good B ps
  room : B.D.room = 100000
  len : B.D.bs.length ≤ i * 100
  past : B.s.past = 0
  bats : B.s.l = ks.map fun k => oB k 0
  rng : ∀ r ∈ ks, 0 ≤ r ∧ r < 64
  cnt : ks.length ≤ i
theorem rnd_may {ks : List Int} {i : Nat} {B : Box} {ps : List (List UInt8)} (h : RndP ks i B ps) {r : Int} (h0 : 0 ≤ r) (h1 : r < 64) : mayE B.s (oB r 0) = if r ∈ ks then 11 else 0 := by
  have h2 : hasL B.s.l (oB r 0).round (oB r 0).chain = decide (r ∈ ks) := by rw [h.bats]; exact hasL_map ks r
  have h3 : ¬ 1099511627776 < (oB r 0).round := by show ¬ 1099511627776 < r; omega
  have h4 : ¬ (oB r 0).round < ((0 : Nat) : Int) := by show ¬ r < 0; omega
  unfold mayE
  rw [oB_e h0 (by decide), h2, h.past, if_neg (by rintro (c | c); exact h3 c; cases c), if_neg (by decide), if_neg h4]
  by_cases hm : r ∈ ks
  · rw [if_pos (decide_eq_true hm), if_pos hm]
  · rw [if_neg (by simp [hm]), if_neg hm]
theorem RndP.skip {ks : List Int} {i : Nat} {B : Box} {ps : List (List UInt8)} (h : RndP ks i B ps) {r : Int} (h0 : 0 ≤ r) (h1 : r < 64) (hm : r ∈ ks) : acceptE B (oB r 0) [] = 11 ∧ RndP ks (i + 1) (acceptB B (oB r 0) []) ps := by
  have h2 : mayE B.s (oB r 0) = 11 := by rw [rnd_may h h0 h1, if_pos hm]
  obtain ⟨h3, h4⟩ := accept_may (B := B) (x := oB r 0) (pubs := []) (by rw [h2]; decide)
  rw [h4]
  exact ⟨h3.trans h2, h.good, h.room, by have := h.len; omega, h.past, h.bats, h.rng, by have := h.cnt; omega⟩
theorem RndP.step {ks : List Int} {i : Nat} {B : Box} {ps : List (List UInt8)} (h : RndP ks i B ps) (hi : i ≤ 20) {r : Int} (h0 : 0 ≤ r) (h1 : r < 64) (hm : ¬ r ∈ ks) : acceptE B (oB r 0) [] = 0 ∧ RndP (ks ++ [r]) (i + 1) (acceptB B (oB r 0) []) (ps ++ [1 :: batB (oB r 0)]) := by
  have hr : InI r := by constructor <;> omega
  have h2 : mayE B.s (oB r 0) = 0 := by rw [rnd_may h h0 h1, if_neg hm]
  have hbl := oB_len hr (c := 0) (by constructor <;> decide)
  have hlen := h.len
  obtain ⟨g1, g2, g3, g4, g5⟩ := h.good.accept (x := oB r 0) (pubs := []) h2 (oB_ok hr (by constructor <;> decide)) rfl (by omega) (by have := h.room; omega)
  refine ⟨g1, g2, g4.trans h.room, by omega, by rw [g3]; exact h.past, ?_, fun q hq => ?_, by have := h.cnt; simp; omega⟩
  · rw [g3]
    show B.s.l ++ [oB r 0] = _
    rw [h.bats, List.map_append]; rfl
  · rcases List.mem_append.1 hq with hq | hq
    · exact h.rng q hq
    · obtain rfl := List.mem_singleton.1 hq; exact ⟨h0, h1⟩
def fromL (ks : List Int) (e : Int) : List Int := ks.filter fun r => decide (e ≤ r)
theorem RndP.expire {ks : List Int} {i : Nat} {B : Box} {ps : List (List UInt8)} (h : RndP ks i B ps) (hi : i ≤ 20) {e : Int} (h0 : 0 ≤ e) (h1 : e ≤ 1099511627776) :
    ∃ ps', expireE B e = 0 ∧ Mbx.Good (expireB B e) ps' ∧ (expireB B e).s = ⟨(fromL ks e).map fun k => oB k 0, e.toNat⟩ ∧ (expireB B e).D.bs.length ≤ 3000 := by
  have hlen := h.len
  obtain ⟨ps', g1, g2, g3, g4⟩ := h.good.expire h0 h1 (by have := h.room; omega)
  refine ⟨ps', g1, g2, ?_, by omega⟩
  rw [g3]
  have hg : goneL B.s.l e.toNat = (fromL ks e).map fun k => oB k 0 := by
    unfold goneL fromL
    rw [h.bats, List.filter_map]
    congr 1
    refine List.filter_congr fun r _ => ?_
    show decide (((e.toNat : Nat) : Int) ≤ r) = decide (e ≤ r)
    rw [Int.toNat_of_nonneg h0]
  unfold goneS
  rw [h.past]
  by_cases hz : e.toNat ≤ 0
  · rw [if_pos hz]
    have he : e = 0 := by omega
    have : fromL ks e = ks := List.filter_eq_self.2 fun r hr => by have := (h.rng r hr).1; simp; omega
    rw [this, ← h.bats, he]
    have := h.past
    cases hB : B.s with | mk l past => rw [hB] at this; simp at this; rw [this]; rfl
  · rw [if_neg hz, hg]
theorem from_has {ks : List Int} {e r : Int} (h : r ∈ ks) : hasL ((fromL ks e).map fun k => oB k 0) r 0 = decide (e ≤ r) := by
  rw [hasL_map, Bool.eq_iff_iff]
  simp [fromL, h]
theorem late_may {l : List BatD} {e r : Int} (h0 : 0 ≤ r) (h1 : r < e) (h2 : e ≤ 1099511627776) : mayE ⟨l, e.toNat⟩ (oB r 1) = 13 := by
  have h3 : ¬ 1099511627776 < (oB r 1).round := by show ¬ 1099511627776 < r; omega
  have h4 : (oB r 1).round < ((e.toNat : Nat) : Int) := by show r < _; omega
  unfold mayE
  rw [oB_e h0 (by decide), if_neg (by rintro (c | c); exact h3 c; cases c), if_neg (by decide), if_pos h4]
theorem MailboxRounds_walk (ao : Option Addr) (c : Nat) (xs : List Int) (ex late : Int) (w : World) (hS : Sl w ao xs.length c 1 (xs.map (.int .i64))) (hl : xs.length ≤ 9223372036854775807) (hb : ∀ x ∈ xs, -9223372036854775808 ≤ x ∧ x ≤ 9223372036854775807) (hex : -9223372036854775808 ≤ ex ∧ ex ≤ 9223372036854775807) (hla : -9223372036854775808 ≤ late ∧ late ≤ 9223372036854775807) :
    Ct Try.prog 3 #[.slice ao xs.length c, .int .i64 ex, .int .i64 late] w (LawOk w) := by
  refine Ct.enter [(0, .slice ao xs.length c), (1, .int .i64 ex), (2, .int .i64 late)] Try.func3 rfl rfl rfl rfl ?_
  obtain ⟨hop0, hg0⟩ := Good.new 100000
  rw [show (⟨⟨100000, [], 0, []⟩, ⟨[], 0⟩, none⟩ : Box) = B0 100000 from rfl] at hop0 hg0
  refine C.seq ?_
  refine C.region ?_
  refine W.assign rfl rfl ?_
  refine W.nil ?_
  refine At.thenCode ?_
  refine C.seq ?_
  refine C.region ?_
  refine W.call Try.call8 rfl (Law23.alive_ok _) rfl ?_
  rintro v20 w20 ⟨rfl, hX20⟩
  refine W.assign rfl rfl ?_
  refine W.nil ?_
  refine At.thenCode ?_
  refine C.seq ?_
  refine C.seq ?_
  refine C.region ?_
  refine W.move rfl rfl ?_
  first | refine W.notD rfl rfl ?_ | refine W.notB rfl rfl ?_
  refine W.eqv (v' := .bool false) (rfl) ?_
  refine W.move rfl rfl ?_
  refine W.wants rfl rfl rfl rfl ?_
  refine W.move rfl rfl ?_
  refine W.wants rfl rfl rfl rfl ?_
  refine W.lenS rfl Try.underlying22 rfl ?_
  refine W.wants rfl rfl rfl rfl ?_
  refine W.gtrI rfl rfl rfl ?_
  refine W.pickF rfl rfl rfl ?_
  refine W.move rfl rfl ?_
  first | refine W.splitD (fun g28 => ?_) (fun g28 => ?_) | refine W.splitB (fun g28 => ?_) (fun g28 => ?_)
  · refine W.skips rfl rfl rfl rfl rfl rfl ?_
    refine W.skips rfl rfl rfl rfl rfl rfl ?_
    refine W.pickT rfl rfl rfl ?_
    refine W.move rfl rfl ?_
    refine W.skips rfl rfl rfl rfl rfl rfl ?_
    refine W.skips rfl rfl rfl rfl rfl rfl ?_
    refine W.pickT rfl rfl rfl ?_
    refine W.nil ?_
    refine At.thenCode ?_
    refine C.condT rfl ?_
    refine C.seq ?_
    refine C.region ?_
    refine W.move rfl rfl ?_
    refine W.assign rfl rfl ?_
    refine W.nil ?_
    refine At.thenCode ?_
    refine C.ret ?_
    refine At.thenRet ?_
    refine At.ret1 Try.results3 rfl ?_
    first
    | exact ⟨rfl, Ext.below (hX20.ext hL149.ext)⟩
    | exact ⟨rfl, Ext.below (hX20.ext hL2.ext)⟩
    | exact ⟨rfl, Ext.below hX20⟩
  · refine W.wants rfl rfl rfl rfl ?_
    refine W.move rfl rfl ?_
    refine W.wants rfl rfl rfl rfl ?_
    refine W.lssI rfl rfl rfl ?_
    refine W.pickF rfl rfl rfl ?_
    refine W.move rfl rfl ?_
    first | refine W.splitD (fun g32 => ?_) (fun g32 => ?_) | refine W.splitB (fun g32 => ?_) (fun g32 => ?_)
    · refine W.skips rfl rfl rfl rfl rfl rfl ?_
      refine W.skips rfl rfl rfl rfl rfl rfl ?_
      refine W.pickT rfl rfl rfl ?_
      refine W.nil ?_
      refine At.thenCode ?_
      refine C.condT rfl ?_
      refine C.seq ?_
      refine C.region ?_
      refine W.move rfl rfl ?_
      refine W.assign rfl rfl ?_
      refine W.nil ?_
      refine At.thenCode ?_
      refine C.ret ?_
      refine At.thenRet ?_
      refine At.ret1 Try.results3 rfl ?_
      first
      | exact ⟨rfl, Ext.below (hX20.ext hL149.ext)⟩
      | exact ⟨rfl, Ext.below (hX20.ext hL2.ext)⟩
      | exact ⟨rfl, Ext.below hX20⟩
    · refine W.wants rfl rfl rfl rfl ?_
      refine W.move rfl rfl ?_
      refine W.wants rfl rfl rfl rfl ?_
      refine W.gtrI rfl rfl rfl ?_
      refine W.pickF rfl rfl rfl ?_
      refine W.nil ?_
      refine At.thenCode ?_
      first | refine C.condD rfl (fun c35 => ?_) (fun c35 => ?_) | refine C.cond rfl (fun c35 => ?_) (fun c35 => ?_)
      · refine C.seq ?_
        refine C.region ?_
        refine W.move rfl rfl ?_
        refine W.assign rfl rfl ?_
        refine W.nil ?_
        refine At.thenCode ?_
        refine C.ret ?_
        refine At.thenRet ?_
        refine At.ret1 Try.results3 rfl ?_
        first
        | exact ⟨rfl, Ext.below (hX20.ext hL149.ext)⟩
        | exact ⟨rfl, Ext.below (hX20.ext hL2.ext)⟩
        | exact ⟨rfl, Ext.below hX20⟩
      · have hn : xs.length ≤ 20 := by omega
        have he0 : 0 ≤ ex := by omega
        have he1 : ex ≤ 1099511627776 := by omega
        have hS17 := hS.ext hX20
        refine C.skip ?_
        refine At.thenCode ?_
        refine C.seq ?_
        refine C.region ?_
        refine W.call Try.call9 rfl (LiveD.New (w0 := w20) (Y := fun _ => False) 100000 (Ext.refl _) (fun _ h => h.elim) (by decide)) rfl ?_
        rintro v37 w37 ⟨dg, rfl, hD37, hX37⟩
        refine W.assign rfl rfl ?_
        refine W.nil ?_
        refine At.thenCode ?_
        refine C.seq ?_
        refine C.region ?_
        refine W.move rfl rfl ?_
        refine W.call Try.call10 rfl (hD37.Open (Nat.zero_le _)) rfl ?_
        rintro v39 w39 ⟨g, rfl, hL39, hC39⟩
        have hL39 : Live w20 w39 (fun _ => False) g dg (max 0 100000) (B0 100000) := by have := hL39; rwa [show (100000 : Int).toNat = 100000 from rfl, hop0] at this
        refine W.assign rfl rfl ?_
        refine W.nil ?_
        refine At.thenCode ?_
        refine C.seq ?_
        refine C.region ?_
        refine W.assign rfl rfl ?_
        refine W.nil ?_
        refine At.thenCode ?_
        refine C.seq ?_
        refine C.seq ?_
        refine C.region ?_
        refine W.assign rfl rfl ?_
        refine W.nil ?_
        refine At.thenCode ?_
        refine C.block ?_
        refine C.loop (X := Nat × ((List Int)) × Value × Box × ((List (List UInt8))) × ((Nat → Prop))) (fun x_ => [(0, .slice ao xs.length c), (1, .int .i64 ex), (2, .int .i64 late), (8, .pointer (some ⟨dg, 0, none⟩)), (9, .pointer (some ⟨g, 0, none⟩)), (10, x_.2.2.1), (11, .int .i64 (x_.1 : Int))]) (fun x_ w1 => x_.1 ≤ xs.length ∧ Live w20 w1 x_.2.2.2.2.2 g dg (max 0 100000) x_.2.2.2.1 ∧ RndP x_.2.1 x_.1 x_.2.2.2.1 x_.2.2.2.2.1 ∧ Oz w1 w20.heap.size x_.2.2.1 x_.2.1 ∧ (∀ q_, x_.2.2.1.ownBlock = some q_ → x_.2.2.2.2.2 q_)) (fun x_ => xs.length - x_.1) (0, [], Value.slice none 0 0, B0 100000, [], fun _ => False) (Sub.cons (rfl) (Sub.cons (rfl) (Sub.cons (rfl) (Sub.cons (rfl) (Sub.cons (rfl) (Sub.cons (rfl) (Sub.cons (rfl) (Sub.nil)))))))) ?start1 ?_
        case start1 =>
          show (0) ≤ xs.length ∧ Live w20 _ (fun _ => False) g dg (max 0 100000) (B0 100000) ∧ RndP ([]) (0) (B0 100000) ([]) ∧ Oz _ w20.heap.size (Value.slice none 0 0) ([]) ∧ (∀ q_, (Value.slice none 0 0).ownBlock = some q_ → (fun _ => False) q_)
          exact ⟨by omega, hL39, ⟨hg0, rfl, Nat.zero_le _, rfl, rfl, fun r hr => by simp at hr, Nat.zero_le _⟩, World.ownsRow_nil _ _ _ _, fun q hq => by cases hq⟩
        rintro ⟨i, ks, v, B, ps, Y⟩ w1 hI_
        replace hI_ : i ≤ xs.length ∧ Live w20 w1 Y g dg (max 0 100000) B ∧ RndP ks i B ps ∧ Oz w1 w20.heap.size v ks ∧ (∀ q_, v.ownBlock = some q_ → Y q_) := hI_
        obtain ⟨hi, hL1, hR1, hO1, hvY⟩ := hI_
        refine C.weaken (l' := [(0, .slice ao xs.length c), (1, .int .i64 ex), (2, .int .i64 late), (8, .pointer (some ⟨dg, 0, none⟩)), (9, .pointer (some ⟨g, 0, none⟩)), (10, v), (11, .int .i64 (i : Int))]) (Sub.cons (rfl) (Sub.cons (rfl) (Sub.cons (rfl) (Sub.cons (rfl) (Sub.cons (rfl) (Sub.cons (rfl) (Sub.cons (rfl) (Sub.nil)))))))) ?_
        refine C.seq ?_
        refine C.seq ?_
        refine C.region ?_
        refine W.move rfl rfl ?_
        refine W.move rfl rfl ?_
        refine W.lenS rfl Try.underlying22 rfl ?_
        refine W.lssI rfl rfl rfl ?_
        refine W.nil ?_
        refine At.thenCode ?_
        first | refine C.condD rfl (fun c43 => ?_) (fun c43 => ?_) | refine C.cond rfl (fun c43 => ?_) (fun c43 => ?_)
        · have hlt : i < xs.length := by omega
          obtain ⟨aK, cK, rfl, hZ1, _⟩ := ownsRow_form hO1
          have hcnt := hR1.cnt
          have hlen1 := hR1.len
          have hmd0 := Int.emod_nonneg xs[i] (show ((2 ^ 6 : Nat) : Int) ≠ 0 by decide)
          have hmd1 := Int.emod_lt_of_pos xs[i] (show (0 : Int) < ((2 ^ 6 : Nat) : Int) by decide)
          obtain ⟨r, hr⟩ : ∃ r, r = xs[i] % ((2 ^ 6 : Nat) : Int) := ⟨_, rfl⟩
          rw [← hr] at hmd0 hmd1
          have hmd1 : r < 64 := hmd1
          refine C.skip ?_
          refine At.thenCode ?_
          refine C.seq ?_
          refine C.block ?_
          refine C.seq ?_
          refine C.region ?_
          refine W.move rfl rfl ?_
          refine W.move rfl rfl ?_
          refine W.indexS (i := (i : Int)) XI Try.underlying22 rfl (hS17.ext hL1.ext) rfl ⟨by omega, by omega⟩ rfl ?_
          intro ad48 _ _ hq48
          have hc48 := hq48 0 (.int .i64 xs[i]) (by rw [List.getElem?_drop, Int.toNat_natCast, Nat.mul_one, Nat.add_zero, List.getElem?_map, List.getElem?_eq_getElem hlt]; rfl)
          rw [add_zero'] at hc48
          refine W.load (v := .int .i64 xs[i]) rfl Try.underlying3 rfl hc48 rfl ?_
          refine W.maskI 6 rfl rfl rfl (by decide) rfl ?_
          rw [← hr]
          refine W.assign rfl rfl ?_
          refine W.nil ?_
          refine At.thenCode ?_
          refine C.seq ?_
          refine C.region ?_
          refine W.move rfl rfl ?_
          refine W.move rfl rfl ?_
          refine W.buildS (fs := _) [(0, 1), (1, 1), (2, 1), (3, 1)] (batC (oB r 0) (.slice none 0 0) (.slice none 0 0)) [(.int .i64 0), (.int .i64 0), (.slice none 0 0), (.slice none 0 0)] Try.underlying33 (by kernel_rfl) (by kernel_rfl) rfl rfl rfl ?_
          have hbm : BatM (Fr w20 Y) w1 (oB r 0) (.slice none 0 0) (.slice none 0 0) := batM_of (by constructor <;> omega) (by constructor <;> decide) (RNums.nilM _ _) (RSl.nilM _ _ _ _) (fun y hy => by simp at hy) (fun p hp => by simp at hp) (by simp) (by simp) (fun p hp => by simp at hp)
          have hbl := oB_len (r := r) (c := 0) (by constructor <;> omega) (by constructor <;> decide)
          refine W.call Try.call11 rfl (hL1.Accept (by decide) (ps := []) hbm (Els.nil _ _ _ _) (Nat.zero_le _) (by omega) (by omega) (by rw [hR1.bats, List.length_map]; omega)) rfl ?_
          rintro v54 w54 ⟨rfl, hL54, hC54⟩
          have hO54 := ownsRow_chg hO1 hC54 fun q hq hf => hf.1 (hvY q hq)
          refine W.assign rfl rfl ?_
          refine W.nil ?_
          refine At.thenCode ?_
          refine C.seq ?_
          refine C.region ?_
          refine W.move rfl rfl ?_
          refine W.litV [Value.int .i64 r] XI Try.underlying22 rfl rfl (by intro u hu; obtain rfl := List.mem_singleton.1 hu; rfl) rfl rfl rfl ?_
          intro g56 w56 hg56 hX56 _ hS56
          refine W.move rfl rfl ?_
          refine W.move rfl rfl ?_
          have hZ56 : Zs w56 aK cK ks := by
            obtain ⟨a', c', q, hs, _⟩ := ownsRow_form hO54
            injection q with e1 _ e3
            subst e1; subst e3
            exact hs.ext hX56
          refine W.call Try.call13 rfl (Law23.pick_ok aK cK ks r _ hZ56 (by omega)) rfl ?_
          rintro v59 w59 ⟨a59, c59, rfl, hZ59, hX59⟩
          refine W.call Try.call12 rfl (Ints.SameInts_ok (some ⟨g56, 0, none⟩) 1 [r] a59 c59 (pickL ks r) _ (hS56.ext hX59) hZ59 (by simp)) rfl ?_
          rintro v60 w60 ⟨rfl, hX60⟩
          rw [pick_same]
          have hXe := (hX56.ext hX59).ext hX60
          have hL60 := hL54.xt hXe
          have hO60 := ownsRow_ext hO54 hXe
          refine W.assign rfl rfl ?_
          refine W.nil ?_
          refine At.thenCode ?_
          refine C.seq ?_
          refine C.seq ?_
          by_cases hin : r ∈ ks
          · refine C.region ?_
            obtain ⟨q1, hR2⟩ := hR1.skip hmd0 hmd1 hin
            rw [q1, decide_eq_true hin]
            refine W.move rfl rfl ?_
            refine W.call Try.call14 rfl (Law23.num_ok _ _) rfl ?_
            rintro v62 w62 ⟨rfl, rfl⟩
            refine W.eqlI rfl rfl rfl ?_
            refine W.eqv (bT (rfl)) ?_
            refine W.move rfl rfl ?_
            refine W.neqB rfl rfl Try.underlying4 rfl ?_
            refine W.eqv (v' := .bool false) (rfl) ?_
            refine W.move rfl rfl ?_
            refine W.wants rfl rfl rfl rfl ?_
            refine W.move rfl rfl ?_
            refine W.wants rfl rfl rfl rfl ?_
            refine W.call Try.call14 rfl (Law23.num_ok _ _) rfl ?_
            rintro v68 w68 ⟨rfl, rfl⟩
            refine W.wants rfl rfl rfl rfl ?_
            refine W.eqlI rfl rfl rfl ?_
            refine W.eqv (bF (by decide)) ?_
            refine W.wants rfl rfl rfl rfl ?_
            refine W.move rfl rfl ?_
            refine W.wants rfl rfl rfl rfl ?_
            refine W.eqlB rfl rfl Try.underlying4 rfl ?_
            refine W.eqv (v' := .bool false) (rfl) ?_
            refine W.pickF rfl rfl rfl ?_
            refine W.nil ?_
            refine At.thenCode ?_
            refine C.condF rfl ?_
            refine C.skip ?_
            refine At.thenCode ?_
            refine C.seq ?_
            refine C.region ?_
            refine W.move rfl rfl ?_
            first | refine W.notD rfl rfl ?_ | refine W.notB rfl rfl ?_
            refine W.eqv (v' := .bool false) (rfl) ?_
            refine W.nil ?_
            refine At.thenCode ?_
            refine C.condF rfl ?_
            refine C.skip ?_
            refine At.blockNormal ?_
            refine At.thenCode ?_
            refine C.region ?_
            refine W.move rfl rfl ?_
            first | refine W.addI rfl rfl (by omega) rfl ?_ | refine W.addW rfl rfl rfl ?_
            refine W.assign rfl rfl ?_
            refine W.nil ?_
            refine At.thenRound (i + 1, ks, Value.slice aK ks.length cK, acceptB B (oB r 0) [], ps, Y) (Sub.cons (rfl) (Sub.cons (rfl) (Sub.cons (rfl) (Sub.cons (rfl) (Sub.cons (rfl) (Sub.cons (rfl) (Sub.cons (look_eq rfl (iV (by omega))) (Sub.nil)))))))) (show (i + 1) ≤ xs.length ∧ Live w20 _ (Y) g dg (max 0 100000) (acceptB B (oB r 0) []) ∧ RndP (ks) (i + 1) (acceptB B (oB r 0) []) (ps) ∧ Oz _ w20.heap.size (Value.slice aK ks.length cK) (ks) ∧ (∀ q_, (Value.slice aK ks.length cK).ownBlock = some q_ → (Y) q_) from ?_) (show xs.length - (i + 1) < xs.length - i from ?_)
            · exact ⟨by omega, hL60, hR2, hO60, hvY⟩
            · omega
          · refine C.region ?_
            obtain ⟨q1, hR2⟩ := hR1.step (by omega) hmd0 hmd1 hin
            rw [q1, decide_eq_false hin]
            refine W.move rfl rfl ?_
            refine W.call Try.call14 rfl (Law23.num_ok _ _) rfl ?_
            rintro v62 w62 ⟨rfl, rfl⟩
            refine W.eqlI rfl rfl rfl ?_
            refine W.eqv (bF (by decide)) ?_
            refine W.move rfl rfl ?_
            refine W.neqB rfl rfl Try.underlying4 rfl ?_
            refine W.eqv (v' := .bool false) (rfl) ?_
            refine W.move rfl rfl ?_
            refine W.wants rfl rfl rfl rfl ?_
            refine W.move rfl rfl ?_
            refine W.wants rfl rfl rfl rfl ?_
            refine W.call Try.call14 rfl (Law23.num_ok _ _) rfl ?_
            rintro v68 w68 ⟨rfl, rfl⟩
            refine W.wants rfl rfl rfl rfl ?_
            refine W.eqlI rfl rfl rfl ?_
            refine W.eqv (bT (rfl)) ?_
            refine W.wants rfl rfl rfl rfl ?_
            refine W.move rfl rfl ?_
            refine W.wants rfl rfl rfl rfl ?_
            refine W.eqlB rfl rfl Try.underlying4 rfl ?_
            refine W.eqv (v' := .bool false) (rfl) ?_
            refine W.pickF rfl rfl rfl ?_
            refine W.nil ?_
            refine At.thenCode ?_
            refine C.condF rfl ?_
            refine C.skip ?_
            refine At.thenCode ?_
            refine C.seq ?_
            refine C.region ?_
            refine W.move rfl rfl ?_
            first | refine W.notD rfl rfl ?_ | refine W.notB rfl rfl ?_
            refine W.eqv (v' := .bool true) (rfl) ?_
            refine W.nil ?_
            refine At.thenCode ?_
            refine C.condT rfl ?_
            refine C.region ?_
            refine W.move rfl rfl ?_
            refine W.move rfl rfl ?_
            refine W.litV [Value.int .i64 r] XI Try.underlying22 rfl rfl (by intro u hu; obtain rfl := List.mem_singleton.1 hu; rfl) rfl rfl rfl ?_
            intro g77 w77 hg77 hX77 _ hS77
            have hs20 := hL60.ext.size
            have hs77 := hX77.size
            have hO77 := ownsRow_ext hO60 hX77
            have hown77 := fun q hq => World.ownsRow.lt hO77 q hq
            refine W.append (cs := ks.map (.int .i64)) XI Try.underlying22 rfl rfl hO77 hS77 (by intro u hu; obtain rfl := List.mem_singleton.1 hu; rfl) (by simp; omega) (by simp; omega) (by omega) rfl ?_
            intro v78 w78 hO78 hg78 hl78
            have hC78 := (Chg.of_grown hg78).mono fun q hq => hq.symm
            have hL78 := Live.grow (hL60.xt hX77) hC78 fun q hq => ⟨hvY q hq, (hown77 q hq).1⟩
            have hO78 : Oz w78 w20.heap.size v78 (ks ++ [r]) := by show World.ownsRow _ _ _ _ _ (ks ++ [r]).length ((ks ++ [r]).map _); rw [List.length_append, List.map_append]; exact hO78
            refine W.assign rfl rfl ?_
            refine W.nil ?_
            refine At.blockNormal ?_
            refine At.thenCode ?_
            refine C.region ?_
            refine W.move rfl rfl ?_
            first | refine W.addI rfl rfl (by omega) rfl ?_ | refine W.addW rfl rfl rfl ?_
            refine W.assign rfl rfl ?_
            refine W.nil ?_
            refine At.thenRound (i + 1, ks ++ [r], v78, acceptB B (oB r 0) [], ps ++ [1 :: batB (oB r 0)], More Y w77 w78) (Sub.cons (rfl) (Sub.cons (rfl) (Sub.cons (rfl) (Sub.cons (rfl) (Sub.cons (rfl) (Sub.cons (rfl) (Sub.cons (look_eq rfl (iV (by omega))) (Sub.nil)))))))) (show (i + 1) ≤ xs.length ∧ Live w20 _ (More Y w77 w78) g dg (max 0 100000) (acceptB B (oB r 0) []) ∧ RndP (ks ++ [r]) (i + 1) (acceptB B (oB r 0) []) (ps ++ [1 :: batB (oB r 0)]) ∧ Oz _ w20.heap.size (v78) (ks ++ [r]) ∧ (∀ q_, (v78).ownBlock = some q_ → (More Y w77 w78) q_) from ?_) (show xs.length - (i + 1) < xs.length - i from ?_)
            · refine ⟨by omega, hL78, hR2, hO78, fun q hq => ?_⟩
              have hq2 := World.ownsRow.lt hO78 q hq
              rcases hl78 with h | ⟨q', h, h'⟩
              · rw [h] at hq; exact .inl (hvY q hq)
              · rw [h] at hq; obtain rfl := Option.some.inj hq; exact .inr ⟨h', hq2.2⟩
            · omega
        · have hi' : i = xs.length := by omega
          subst hi'
          have hcnt := hR1.cnt
          have hlen1 := hR1.len
          obtain ⟨ps', x1, x2, x3, x4⟩ := hR1.expire (by omega) he0 he1
          refine C.exit ?_
          refine At.thenExit ?_
          refine At.thenExit ?_
          refine At.blockSelf ?_
          refine At.thenCode ?_
          refine C.seq ?_
          refine C.region ?_
          refine W.move rfl rfl ?_
          refine W.move rfl rfl ?_
          refine W.call Try.call15 rfl (hL1.Expire (by decide) (r := ex) (by omega) (by rw [hR1.bats, List.length_map]; omega) hex) rfl ?_
          rintro v81 w81 ⟨rfl, hL81, hC81⟩
          rw [x1]
          have hO81 := ownsRow_chg hO1 hC81 fun q hq hf => hf.1 (hvY q hq)
          refine W.assign rfl rfl ?_
          refine W.nil ?_
          refine At.thenCode ?_
          refine C.seq ?_
          refine C.region ?_
          refine W.move rfl rfl ?_
          obtain ⟨F, hSt, hDs⟩ := Live.split hL81
          refine W.call Try.call10 rfl (hDs.Open (by omega)) rfl ?_
          rintro v83 w83 ⟨g2, rfl, hL83, hC83⟩
          rw [x2.open] at hL83
          have hSt83 := hSt.chg hC83 fun q hq hf => hf.1 (.inr hq)
          have hO83 := ownsRow_chg hO81 hC83 fun q hq hf => hf.1 (.inl (hvY q hq))
          obtain ⟨aK, cK, rfl, hZ83, _⟩ := ownsRow_form hO83
          rw [x3] at hSt83
          refine W.assign rfl rfl ?_
          refine W.nil ?_
          refine At.thenCode ?_
          refine C.seq ?_
          refine C.region ?_
          refine W.assign rfl rfl ?_
          refine W.nil ?_
          refine At.thenCode ?_
          refine C.seq ?_
          refine C.seq ?_
          refine C.region ?_
          refine W.assign rfl rfl ?_
          refine W.nil ?_
          refine At.thenCode ?_
          refine C.block ?_
          refine C.loop (X := Nat) (fun x_ => [(1, .int .i64 ex), (2, .int .i64 late), (9, .pointer (some ⟨g, 0, none⟩)), (10, .slice aK ks.length cK), (15, .int .i64 ((0 : Nat) : Int)), (16, .pointer (some ⟨g2, 0, none⟩)), (17, .int .i64 ((fromL (ks.take x_) ex).length : Int)), (18, .int .i64 (x_ : Int))]) (fun x_ w2 => x_ ≤ ks.length ∧ Ext w83 w2) (fun x_ => ks.length - x_) (0) (Sub.cons (rfl) (Sub.cons (rfl) (Sub.cons (rfl) (Sub.cons (rfl) (Sub.cons (rfl) (Sub.cons (rfl) (Sub.cons (rfl) (Sub.cons (rfl) (Sub.nil))))))))) ?start2 ?_
          case start2 =>
            show (0) ≤ ks.length ∧ Ext w83 _
            exact ⟨by omega, Ext.refl _⟩
          rintro j w2 hI_
          replace hI_ : j ≤ ks.length ∧ Ext w83 w2 := hI_
          obtain ⟨hj, hX2⟩ := hI_
          refine C.weaken (l' := [(1, .int .i64 ex), (2, .int .i64 late), (9, .pointer (some ⟨g, 0, none⟩)), (10, .slice aK ks.length cK), (15, .int .i64 ((0 : Nat) : Int)), (16, .pointer (some ⟨g2, 0, none⟩)), (17, .int .i64 ((fromL (ks.take j) ex).length : Int)), (18, .int .i64 (j : Int))]) (Sub.cons (rfl) (Sub.cons (rfl) (Sub.cons (rfl) (Sub.cons (rfl) (Sub.cons (rfl) (Sub.cons (rfl) (Sub.cons (rfl) (Sub.cons (rfl) (Sub.nil))))))))) ?_
          refine C.seq ?_
          refine C.seq ?_
          refine C.region ?_
          refine W.move rfl rfl ?_
          refine W.move rfl rfl ?_
          refine W.lenS rfl Try.underlying22 rfl ?_
          refine W.lssI rfl rfl rfl ?_
          refine W.nil ?_
          refine At.thenCode ?_
          first | refine C.condD rfl (fun c87 => ?_) (fun c87 => ?_) | refine C.cond rfl (fun c87 => ?_) (fun c87 => ?_)
          · have hjl : j < ks.length := by omega
            obtain ⟨r, hr⟩ : ∃ r, r = ks[j] := ⟨_, rfl⟩
            have hrm : r ∈ ks := by rw [hr]; exact List.getElem_mem hjl
            have hrg := hR1.rng r hrm
            have hfl : (fromL (ks.take j) ex).length ≤ 20 := Nat.le_trans (List.length_filter_le _ _) (by rw [List.length_take]; omega)
            have htk : fromL (ks.take (j + 1)) ex = fromL (ks.take j) ex ++ fromL [r] ex := by rw [List.take_succ_eq_append_getElem hjl, ← hr]; exact List.filter_append _ _
            refine C.skip ?_
            refine At.thenCode ?_
            refine C.seq ?_
            refine C.block ?_
            refine C.seq ?_
            refine C.seq ?_
            refine C.region ?_
            refine W.move rfl rfl ?_
            refine W.move rfl rfl ?_
            refine W.indexS (i := (j : Int)) XI Try.underlying22 rfl (hZ83.ext hX2) rfl ⟨by omega, by omega⟩ rfl ?_
            intro ad92 _ _ hq92
            have hc92 := hq92 0 (.int .i64 r) (by rw [List.getElem?_drop, Int.toNat_natCast, Nat.mul_one, Nat.add_zero, List.getElem?_map, List.getElem?_eq_getElem hjl, ← hr]; rfl)
            rw [add_zero'] at hc92
            refine W.load (v := .int .i64 r) rfl Try.underlying3 rfl hc92 rfl ?_
            refine W.move rfl rfl ?_
            refine W.geqI rfl rfl rfl ?_
            refine W.nil ?_
            refine At.thenCode ?_
            refine C.mid (X := Nat) (fun x_ => [(1, .int .i64 ex), (2, .int .i64 late), (9, .pointer (some ⟨g, 0, none⟩)), (10, .slice aK ks.length cK), (15, .int .i64 ((0 : Nat) : Int)), (16, .pointer (some ⟨g2, 0, none⟩)), (17, .int .i64 (x_ : Int)), (18, .int .i64 (j : Int))]) (fun x_ wm95 => w2 = wm95 ∧ x_ = (fromL (ks.take (j + 1)) ex).length) ?_ ?_
            · first | refine C.condD rfl (fun c95 => ?_) (fun c95 => ?_) | refine C.cond rfl (fun c95 => ?_) (fun c95 => ?_)
              · refine C.region ?_
                refine W.move rfl rfl ?_
                first | refine W.addI rfl rfl (by omega) rfl ?_ | refine W.addW rfl rfl rfl ?_
                refine W.assign rfl rfl ?_
                refine W.nil ?_
                refine At.thenMid ((fromL (ks.take j) ex).length + 1) (Sub.cons (rfl) (Sub.cons (rfl) (Sub.cons (rfl) (Sub.cons (rfl) (Sub.cons (rfl) (Sub.cons (rfl) (Sub.cons (look_eq rfl (iV (by omega))) (Sub.cons (rfl) (Sub.nil))))))))) (show w2 = _ ∧ ((fromL (ks.take j) ex).length + 1) = (fromL (ks.take (j + 1)) ex).length from ?_)
                exact ⟨rfl, by rw [htk, List.length_append, show fromL [r] ex = [r] by (simp [fromL]; omega)]; rfl⟩
              · refine C.skip ?_
                refine At.thenMid ((fromL (ks.take j) ex).length) (Sub.cons (rfl) (Sub.cons (rfl) (Sub.cons (rfl) (Sub.cons (rfl) (Sub.cons (rfl) (Sub.cons (rfl) (Sub.cons (rfl) (Sub.cons (rfl) (Sub.nil))))))))) (show w2 = _ ∧ ((fromL (ks.take j) ex).length) = (fromL (ks.take (j + 1)) ex).length from ?_)
                exact ⟨rfl, by rw [htk, List.length_append, show fromL [r] ex = [] by (simp [fromL]; omega)]; rfl⟩
            · rintro z wm95 hI_
              replace hI_ : w2 = wm95 ∧ z = (fromL (ks.take (j + 1)) ex).length := hI_
              obtain ⟨rfl, hz⟩ := hI_
              refine C.weaken (l' := [(1, .int .i64 ex), (2, .int .i64 late), (9, .pointer (some ⟨g, 0, none⟩)), (10, .slice aK ks.length cK), (15, .int .i64 ((0 : Nat) : Int)), (16, .pointer (some ⟨g2, 0, none⟩)), (17, .int .i64 (z : Int)), (18, .int .i64 (j : Int))]) (Sub.cons (rfl) (Sub.cons (rfl) (Sub.cons (rfl) (Sub.cons (rfl) (Sub.cons (rfl) (Sub.cons (rfl) (Sub.cons (rfl) (Sub.cons (rfl) (Sub.nil))))))))) ?_
              refine C.seq ?_
              refine C.regionAny 32 ((fun v w => v = .pointer (some ⟨g, 0, none⟩)) :: (fun v w => v = .slice aK ks.length cK) :: (fun v w => v = .int .i64 (j : Int)) :: (fun v w => PtI w v r) :: (fun v w => v = .int .i64 r) :: (fun v w => v = .bool (decide (ex ≤ r))) :: (fun v w => v = .slice aK ks.length cK) :: (fun v w => v = .int .i64 (j : Int)) :: (fun v w => PtI w v r) :: (fun v w => v = .int .i64 r) :: (fun v w => v = .int .i64 ex) :: (fun v w => v = .bool (decide (ex ≤ r))) :: (fun v w => v = .bool false) :: (fun v w => v = .bool false) :: (fun v w => v = .pointer (some ⟨g2, 0, none⟩)) :: (fun v w => v = .bool false) :: (fun v w => v = .bool false) :: (fun v w => v = .bool false) :: (fun v w => v = .pointer (some ⟨g2, 0, none⟩)) :: (fun v w => v = .slice aK ks.length cK) :: (fun v w => v = .int .i64 (j : Int)) :: (fun v w => PtI w v r) :: (fun v w => v = .int .i64 r) :: (fun v w => v = .bool (decide (ex ≤ r))) :: (fun v w => v = .slice aK ks.length cK) :: (fun v w => v = .int .i64 (j : Int)) :: (fun v w => PtI w v r) :: (fun v w => v = .int .i64 r) :: (fun v w => v = .int .i64 ex) :: (fun v w => v = .bool (decide (ex ≤ r))) :: (fun v w => v = .bool false) :: (fun v w => v = .bool false) :: []) [(1, .int .i64 ex), (2, .int .i64 late), (9, .pointer (some ⟨g, 0, none⟩)), (10, .slice aK ks.length cK), (15, .int .i64 ((0 : Nat) : Int)), (16, .pointer (some ⟨g2, 0, none⟩)), (17, .int .i64 (z : Int)), (18, .int .i64 (j : Int))] [] (Sub.cons (rfl) (Sub.cons (rfl) (Sub.cons (rfl) (Sub.cons (rfl) (Sub.cons (rfl) (Sub.cons (rfl) (Sub.cons (rfl) (Sub.cons (rfl) (Sub.nil))))))))) (Sub.nil) (Sub.cons (rfl) (Sub.cons (rfl) (Sub.cons (rfl) (Sub.cons (rfl) (Sub.cons (rfl) (Sub.cons (rfl) (Sub.cons (rfl) (Sub.cons (rfl) (Sub.nil))))))))) (by kernel_rfl) rfl rfl rfl (And.intro (fun _ _ _ h _ => h) (And.intro (fun _ _ _ h _ => h) (And.intro (fun _ _ _ h _ => h) (And.intro (fun _ _ _ h g => h.ext g) (And.intro (fun _ _ _ h _ => h) (And.intro (fun _ _ _ h _ => h) (And.intro (fun _ _ _ h _ => h) (And.intro (fun _ _ _ h _ => h) (And.intro (fun _ _ _ h g => h.ext g) (And.intro (fun _ _ _ h _ => h) (And.intro (fun _ _ _ h _ => h) (And.intro (fun _ _ _ h _ => h) (And.intro (fun _ _ _ h _ => h) (And.intro (fun _ _ _ h _ => h) (And.intro (fun _ _ _ h _ => h) (And.intro (fun _ _ _ h _ => h) (And.intro (fun _ _ _ h _ => h) (And.intro (fun _ _ _ h _ => h) (And.intro (fun _ _ _ h _ => h) (And.intro (fun _ _ _ h _ => h) (And.intro (fun _ _ _ h _ => h) (And.intro (fun _ _ _ h g => h.ext g) (And.intro (fun _ _ _ h _ => h) (And.intro (fun _ _ _ h _ => h) (And.intro (fun _ _ _ h _ => h) (And.intro (fun _ _ _ h _ => h) (And.intro (fun _ _ _ h g => h.ext g) (And.intro (fun _ _ _ h _ => h) (And.intro (fun _ _ _ h _ => h) (And.intro (fun _ _ _ h _ => h) (And.intro (fun _ _ _ h _ => h) (And.intro (fun _ _ _ h _ => h) (trivial))))))))))))))))))))))))))))))))) ?_ ?_
              · refine And.intro ?_ ?_
                · intro L_ wr hX_ hs_ hf_ hd_
                  refine W.step [(9, _)] (Sub.cons (hs_ _ _ rfl) (Sub.refl _)) ?_
                  refine W.move rfl rfl ?_
                  refine W.nil ?_
                  exact At.step (Ext.refl _) rfl
                refine And.intro ?_ ?_
                · intro L_ wr hX_ hs_ hf_ hd_
                  refine W.step [(10, _)] (Sub.cons (hs_ _ _ rfl) (Sub.refl _)) ?_
                  refine W.move rfl rfl ?_
                  refine W.nil ?_
                  exact At.step (Ext.refl _) rfl
                refine And.intro ?_ ?_
                · intro L_ wr hX_ hs_ hf_ hd_
                  refine W.step [(18, _)] (Sub.cons (hs_ _ _ rfl) (Sub.refl _)) ?_
                  refine W.move rfl rfl ?_
                  refine W.nil ?_
                  exact At.step (Ext.refl _) rfl
                refine And.intro ?_ ?_
                · intro L_ wr hX_ hs_ hf_ hd_
                  obtain ⟨v1, e1, r1⟩ := hd_ 1 rfl
                  obtain rfl : (.slice aK ks.length cK : Value) = v1 := Eq.symm r1
                  obtain ⟨v2, e2, r2⟩ := hd_ 2 rfl
                  obtain rfl : (.int .i64 (j : Int) : Value) = v2 := Eq.symm r2
                  refine W.step [(99, _), (100, _)] (Sub.cons (e1 _ rfl) (Sub.cons (e2 _ rfl) (Sub.refl _))) ?_
                  refine W.indexS (i := (j : Int)) XI Try.underlying22 rfl ((hZ83.ext hX2).ext hX_) rfl ⟨by omega, by omega⟩ rfl ?_
                  intro ad101 _ _ hq101
                  have hc101 := hq101 0 (.int .i64 r) (by rw [List.getElem?_drop, Int.toNat_natCast, Nat.mul_one, Nat.add_zero, List.getElem?_map, List.getElem?_eq_getElem hjl, ← hr]; rfl)
                  rw [add_zero'] at hc101
                  refine W.nil ?_
                  exact At.step (Ext.refl _) ⟨ad101, rfl, hc101⟩
                refine And.intro ?_ ?_
                · intro L_ wr hX_ hs_ hf_ hd_
                  obtain ⟨v3, e3, r3⟩ := hd_ 3 rfl
                  obtain ⟨ad3, rfl, hc3⟩ := r3
                  refine W.step [(101, _)] (Sub.cons (e3 _ rfl) (Sub.refl _)) ?_
                  refine W.load (v := .int .i64 r) rfl Try.underlying3 rfl hc3 rfl ?_
                  refine W.nil ?_
                  exact At.step (Ext.refl _) rfl
                refine And.intro ?_ ?_
                · intro L_ wr hX_ hs_ hf_ hd_
                  obtain ⟨v0, e0, r0⟩ := hd_ 0 rfl
                  obtain rfl : (.pointer (some ⟨g, 0, none⟩) : Value) = v0 := Eq.symm r0
                  obtain ⟨v4, e4, r4⟩ := hd_ 4 rfl
                  obtain rfl : (.int .i64 r : Value) = v4 := Eq.symm r4
                  refine W.step [(98, _), (102, _)] (Sub.cons (e0 _ rfl) (Sub.cons (e4 _ rfl) (Sub.refl _))) ?_
                  refine W.call Try.call16 rfl (Mbx.Has_ok F g dg _ _ r 0 _ ((hSt83.ext hX2).ext hX_) (by constructor <;> omega) (by constructor <;> decide)) rfl ?_
                  rintro v103 w103 ⟨rfl, rfl⟩
                  rw [from_has hrm]
                  refine W.nil ?_
                  exact At.step (Ext.refl _) rfl
                refine And.intro ?_ ?_
                · intro L_ wr hX_ hs_ hf_ hd_
                  refine W.step [(10, _)] (Sub.cons (hs_ _ _ rfl) (Sub.refl _)) ?_
                  refine W.move rfl rfl ?_
                  refine W.nil ?_
                  exact At.step (Ext.refl _) rfl
                refine And.intro ?_ ?_
                · intro L_ wr hX_ hs_ hf_ hd_
                  refine W.step [(18, _)] (Sub.cons (hs_ _ _ rfl) (Sub.refl _)) ?_
                  refine W.move rfl rfl ?_
                  refine W.nil ?_
                  exact At.step (Ext.refl _) rfl
                refine And.intro ?_ ?_
                · intro L_ wr hX_ hs_ hf_ hd_
                  obtain ⟨v6, e6, r6⟩ := hd_ 6 rfl
                  obtain rfl : (.slice aK ks.length cK : Value) = v6 := Eq.symm r6
                  obtain ⟨v7, e7, r7⟩ := hd_ 7 rfl
                  obtain rfl : (.int .i64 (j : Int) : Value) = v7 := Eq.symm r7
                  refine W.step [(104, _), (105, _)] (Sub.cons (e6 _ rfl) (Sub.cons (e7 _ rfl) (Sub.refl _))) ?_
                  refine W.indexS (i := (j : Int)) XI Try.underlying22 rfl ((hZ83.ext hX2).ext hX_) rfl ⟨by omega, by omega⟩ rfl ?_
                  intro ad106 _ _ hq106
                  have hc106 := hq106 0 (.int .i64 r) (by rw [List.getElem?_drop, Int.toNat_natCast, Nat.mul_one, Nat.add_zero, List.getElem?_map, List.getElem?_eq_getElem hjl, ← hr]; rfl)
                  rw [add_zero'] at hc106
                  refine W.nil ?_
                  exact At.step (Ext.refl _) ⟨ad106, rfl, hc106⟩
                refine And.intro ?_ ?_
                · intro L_ wr hX_ hs_ hf_ hd_
                  obtain ⟨v8, e8, r8⟩ := hd_ 8 rfl
                  obtain ⟨ad8, rfl, hc8⟩ := r8
                  refine W.step [(106, _)] (Sub.cons (e8 _ rfl) (Sub.refl _)) ?_
                  refine W.load (v := .int .i64 r) rfl Try.underlying3 rfl hc8 rfl ?_
                  refine W.nil ?_
                  exact At.step (Ext.refl _) rfl
                refine And.intro ?_ ?_
                · intro L_ wr hX_ hs_ hf_ hd_
                  refine W.step [(1, _)] (Sub.cons (hs_ _ _ rfl) (Sub.refl _)) ?_
                  refine W.move rfl rfl ?_
                  refine W.nil ?_
                  exact At.step (Ext.refl _) rfl
                refine And.intro ?_ ?_
                · intro L_ wr hX_ hs_ hf_ hd_
                  obtain ⟨v9, e9, r9⟩ := hd_ 9 rfl
                  obtain rfl : (.int .i64 r : Value) = v9 := Eq.symm r9
                  obtain ⟨v10, e10, r10⟩ := hd_ 10 rfl
                  obtain rfl : (.int .i64 ex : Value) = v10 := Eq.symm r10
                  refine W.step [(107, _), (108, _)] (Sub.cons (e9 _ rfl) (Sub.cons (e10 _ rfl) (Sub.refl _))) ?_
                  refine W.geqI rfl rfl rfl ?_
                  refine W.nil ?_
                  exact At.step (Ext.refl _) rfl
                refine And.intro ?_ ?_
                · intro L_ wr hX_ hs_ hf_ hd_
                  obtain ⟨v5, e5, r5⟩ := hd_ 5 rfl
                  obtain rfl : (.bool (decide (ex ≤ r)) : Value) = v5 := Eq.symm r5
                  obtain ⟨v11, e11, r11⟩ := hd_ 11 rfl
                  obtain rfl : (.bool (decide (ex ≤ r)) : Value) = v11 := Eq.symm r11
                  refine W.step [(103, _), (109, _)] (Sub.cons (e5 _ rfl) (Sub.cons (e11 _ rfl) (Sub.refl _))) ?_
                  refine W.neqB rfl rfl Try.underlying4 rfl ?_
                  refine W.eqv (v' := .bool false) (by simp) ?_
                  refine W.nil ?_
                  exact At.step (Ext.refl _) rfl
                refine And.intro ?_ ?_
                · intro L_ wr hX_ hs_ hf_ hd_
                  obtain ⟨v12, e12, r12⟩ := hd_ 12 rfl
                  obtain rfl : (.bool false : Value) = v12 := Eq.symm r12
                  refine W.step [(110, _)] (Sub.cons (e12 _ rfl) (Sub.refl _)) ?_
                  refine W.move rfl rfl ?_
                  refine W.nil ?_
                  exact At.step (Ext.refl _) rfl
                refine And.intro ?_ ?_
                · intro L_ wr hX_ hs_ hf_ hd_
                  obtain ⟨v13, e13, r13⟩ := hd_ 13 rfl
                  obtain rfl : (.bool false : Value) = v13 := Eq.symm r13
                  refine W.step [(16, _), (111, _)] (Sub.cons (hs_ _ _ rfl) (Sub.cons (e13 _ rfl) (Sub.refl _))) ?_
                  refine W.wants rfl rfl rfl rfl ?_
                  refine W.move rfl rfl ?_
                  refine W.nil ?_
                  exact At.step (Ext.refl _) rfl
                refine And.intro ?_ ?_
                · intro L_ wr hX_ hs_ hf_ hd_
                  obtain ⟨v14, e14, r14⟩ := hd_ 14 rfl
                  obtain rfl : (.pointer (some ⟨g2, 0, none⟩) : Value) = v14 := Eq.symm r14
                  obtain ⟨v13, e13, r13⟩ := hd_ 13 rfl
                  obtain rfl : (.bool false : Value) = v13 := Eq.symm r13
                  refine W.step [(112, _), (111, _)] (Sub.cons (e14 _ rfl) (Sub.cons (e13 _ rfl) (Sub.refl _))) ?_
                  refine W.wants rfl rfl rfl rfl ?_
                  refine W.eqlPtr rfl rfl rfl rfl ?_
                  refine W.nil ?_
                  exact At.step (Ext.refl _) rfl
                refine And.intro ?_ ?_
                · intro L_ wr hX_ hs_ hf_ hd_
                  obtain ⟨v13, e13, r13⟩ := hd_ 13 rfl
                  obtain rfl : (.bool false : Value) = v13 := Eq.symm r13
                  obtain ⟨v15, e15, r15⟩ := hd_ 15 rfl
                  obtain rfl : (.bool false : Value) = v15 := Eq.symm r15
                  refine W.step [(111, _), (113, _)] (Sub.cons (e13 _ rfl) (Sub.cons (e15 _ rfl) (Sub.refl _))) ?_
                  refine W.pickF rfl rfl rfl ?_
                  refine W.nil ?_
                  exact At.step (Ext.refl _) rfl
                refine And.intro ?_ ?_
                · intro L_ wr hX_ hs_ hf_ hd_
                  obtain ⟨v16, e16, r16⟩ := hd_ 16 rfl
                  obtain rfl : (.bool false : Value) = v16 := Eq.symm r16
                  refine W.step [(114, _)] (Sub.cons (e16 _ rfl) (Sub.refl _)) ?_
                  refine W.move rfl rfl ?_
                  refine W.nil ?_
                  exact At.step (Ext.refl _) rfl
                refine And.intro ?_ ?_
                · intro L_ wr hX_ hs_ hf_ hd_
                  obtain ⟨v17, e17, r17⟩ := hd_ 17 rfl
                  obtain rfl : (.bool false : Value) = v17 := Eq.symm r17
                  refine W.step [(16, _), (115, _)] (Sub.cons (hs_ _ _ rfl) (Sub.cons (e17 _ rfl) (Sub.refl _))) ?_
                  refine W.wants rfl rfl rfl rfl ?_
                  refine W.move rfl rfl ?_
                  refine W.nil ?_
                  exact At.step (Ext.refl _) rfl
                refine And.intro ?_ ?_
                · intro L_ wr hX_ hs_ hf_ hd_
                  obtain ⟨v17, e17, r17⟩ := hd_ 17 rfl
                  obtain rfl : (.bool false : Value) = v17 := Eq.symm r17
                  refine W.step [(10, _), (115, _)] (Sub.cons (hs_ _ _ rfl) (Sub.cons (e17 _ rfl) (Sub.refl _))) ?_
                  refine W.wants rfl rfl rfl rfl ?_
                  refine W.move rfl rfl ?_
                  refine W.nil ?_
                  exact At.step (Ext.refl _) rfl
                refine And.intro ?_ ?_
                · intro L_ wr hX_ hs_ hf_ hd_
                  obtain ⟨v17, e17, r17⟩ := hd_ 17 rfl
                  obtain rfl : (.bool false : Value) = v17 := Eq.symm r17
                  refine W.step [(18, _), (115, _)] (Sub.cons (hs_ _ _ rfl) (Sub.cons (e17 _ rfl) (Sub.refl _))) ?_
                  refine W.wants rfl rfl rfl rfl ?_
                  refine W.move rfl rfl ?_
                  refine W.nil ?_
                  exact At.step (Ext.refl _) rfl
                refine And.intro ?_ ?_
                · intro L_ wr hX_ hs_ hf_ hd_
                  obtain ⟨v19, e19, r19⟩ := hd_ 19 rfl
                  obtain rfl : (.slice aK ks.length cK : Value) = v19 := Eq.symm r19
                  obtain ⟨v20, e20, r20⟩ := hd_ 20 rfl
                  obtain rfl : (.int .i64 (j : Int) : Value) = v20 := Eq.symm r20
                  obtain ⟨v17, e17, r17⟩ := hd_ 17 rfl
                  obtain rfl : (.bool false : Value) = v17 := Eq.symm r17
                  refine W.step [(117, _), (118, _), (115, _)] (Sub.cons (e19 _ rfl) (Sub.cons (e20 _ rfl) (Sub.cons (e17 _ rfl) (Sub.refl _)))) ?_
                  refine W.wants rfl rfl rfl rfl ?_
                  refine W.indexS (i := (j : Int)) XI Try.underlying22 rfl ((hZ83.ext hX2).ext hX_) rfl ⟨by omega, by omega⟩ rfl ?_
                  intro ad119 _ _ hq119
                  have hc119 := hq119 0 (.int .i64 r) (by rw [List.getElem?_drop, Int.toNat_natCast, Nat.mul_one, Nat.add_zero, List.getElem?_map, List.getElem?_eq_getElem hjl, ← hr]; rfl)
                  rw [add_zero'] at hc119
                  refine W.nil ?_
                  exact At.step (Ext.refl _) ⟨ad119, rfl, hc119⟩
                refine And.intro ?_ ?_
                · intro L_ wr hX_ hs_ hf_ hd_
                  obtain ⟨v21, e21, r21⟩ := hd_ 21 rfl
                  obtain ⟨ad21, rfl, hc21⟩ := r21
                  obtain ⟨v17, e17, r17⟩ := hd_ 17 rfl
                  obtain rfl : (.bool false : Value) = v17 := Eq.symm r17
                  refine W.step [(119, _), (115, _)] (Sub.cons (e21 _ rfl) (Sub.cons (e17 _ rfl) (Sub.refl _))) ?_
                  refine W.wants rfl rfl rfl rfl ?_
                  refine W.load (v := .int .i64 r) rfl Try.underlying3 rfl hc21 rfl ?_
                  refine W.nil ?_
                  exact At.step (Ext.refl _) rfl
                refine And.intro ?_ ?_
                · intro L_ wr hX_ hs_ hf_ hd_
                  obtain ⟨v18, e18, r18⟩ := hd_ 18 rfl
                  obtain rfl : (.pointer (some ⟨g2, 0, none⟩) : Value) = v18 := Eq.symm r18
                  obtain ⟨v22, e22, r22⟩ := hd_ 22 rfl
                  obtain rfl : (.int .i64 r : Value) = v22 := Eq.symm r22
                  obtain ⟨v17, e17, r17⟩ := hd_ 17 rfl
                  obtain rfl : (.bool false : Value) = v17 := Eq.symm r17
                  refine W.step [(116, _), (120, _), (115, _)] (Sub.cons (e18 _ rfl) (Sub.cons (e22 _ rfl) (Sub.cons (e17 _ rfl) (Sub.refl _)))) ?_
                  refine W.wants rfl rfl rfl rfl ?_
                  refine W.call Try.call16 rfl (((hL83.xt hX2).xt hX_).Has (r := r) (c := 0) (by constructor <;> omega) (by constructor <;> decide)) rfl ?_
                  rintro v121 w121 ⟨rfl, rfl⟩
                  rw [x3, from_has hrm]
                  refine W.nil ?_
                  exact At.step (Ext.refl _) rfl
                refine And.intro ?_ ?_
                · intro L_ wr hX_ hs_ hf_ hd_
                  obtain ⟨v17, e17, r17⟩ := hd_ 17 rfl
                  obtain rfl : (.bool false : Value) = v17 := Eq.symm r17
                  refine W.step [(10, _), (115, _)] (Sub.cons (hs_ _ _ rfl) (Sub.cons (e17 _ rfl) (Sub.refl _))) ?_
                  refine W.wants rfl rfl rfl rfl ?_
                  refine W.move rfl rfl ?_
                  refine W.nil ?_
                  exact At.step (Ext.refl _) rfl
                refine And.intro ?_ ?_
                · intro L_ wr hX_ hs_ hf_ hd_
                  obtain ⟨v17, e17, r17⟩ := hd_ 17 rfl
                  obtain rfl : (.bool false : Value) = v17 := Eq.symm r17
                  refine W.step [(18, _), (115, _)] (Sub.cons (hs_ _ _ rfl) (Sub.cons (e17 _ rfl) (Sub.refl _))) ?_
                  refine W.wants rfl rfl rfl rfl ?_
                  refine W.move rfl rfl ?_
                  refine W.nil ?_
                  exact At.step (Ext.refl _) rfl
                refine And.intro ?_ ?_
                · intro L_ wr hX_ hs_ hf_ hd_
                  obtain ⟨v24, e24, r24⟩ := hd_ 24 rfl
                  obtain rfl : (.slice aK ks.length cK : Value) = v24 := Eq.symm r24
                  obtain ⟨v25, e25, r25⟩ := hd_ 25 rfl
                  obtain rfl : (.int .i64 (j : Int) : Value) = v25 := Eq.symm r25
                  obtain ⟨v17, e17, r17⟩ := hd_ 17 rfl
                  obtain rfl : (.bool false : Value) = v17 := Eq.symm r17
                  refine W.step [(122, _), (123, _), (115, _)] (Sub.cons (e24 _ rfl) (Sub.cons (e25 _ rfl) (Sub.cons (e17 _ rfl) (Sub.refl _)))) ?_
                  refine W.wants rfl rfl rfl rfl ?_
                  refine W.indexS (i := (j : Int)) XI Try.underlying22 rfl ((hZ83.ext hX2).ext hX_) rfl ⟨by omega, by omega⟩ rfl ?_
                  intro ad124 _ _ hq124
                  have hc124 := hq124 0 (.int .i64 r) (by rw [List.getElem?_drop, Int.toNat_natCast, Nat.mul_one, Nat.add_zero, List.getElem?_map, List.getElem?_eq_getElem hjl, ← hr]; rfl)
                  rw [add_zero'] at hc124
                  refine W.nil ?_
                  exact At.step (Ext.refl _) ⟨ad124, rfl, hc124⟩
                refine And.intro ?_ ?_
                · intro L_ wr hX_ hs_ hf_ hd_
                  obtain ⟨v26, e26, r26⟩ := hd_ 26 rfl
                  obtain ⟨ad26, rfl, hc26⟩ := r26
                  obtain ⟨v17, e17, r17⟩ := hd_ 17 rfl
                  obtain rfl : (.bool false : Value) = v17 := Eq.symm r17
                  refine W.step [(124, _), (115, _)] (Sub.cons (e26 _ rfl) (Sub.cons (e17 _ rfl) (Sub.refl _))) ?_
                  refine W.wants rfl rfl rfl rfl ?_
                  refine W.load (v := .int .i64 r) rfl Try.underlying3 rfl hc26 rfl ?_
                  refine W.nil ?_
                  exact At.step (Ext.refl _) rfl
                refine And.intro ?_ ?_
                · intro L_ wr hX_ hs_ hf_ hd_
                  obtain ⟨v17, e17, r17⟩ := hd_ 17 rfl
                  obtain rfl : (.bool false : Value) = v17 := Eq.symm r17
                  refine W.step [(1, _), (115, _)] (Sub.cons (hs_ _ _ rfl) (Sub.cons (e17 _ rfl) (Sub.refl _))) ?_
                  refine W.wants rfl rfl rfl rfl ?_
                  refine W.move rfl rfl ?_
                  refine W.nil ?_
                  exact At.step (Ext.refl _) rfl
                refine And.intro ?_ ?_
                · intro L_ wr hX_ hs_ hf_ hd_
                  obtain ⟨v27, e27, r27⟩ := hd_ 27 rfl
                  obtain rfl : (.int .i64 r : Value) = v27 := Eq.symm r27
                  obtain ⟨v28, e28, r28⟩ := hd_ 28 rfl
                  obtain rfl : (.int .i64 ex : Value) = v28 := Eq.symm r28
                  obtain ⟨v17, e17, r17⟩ := hd_ 17 rfl
                  obtain rfl : (.bool false : Value) = v17 := Eq.symm r17
                  refine W.step [(125, _), (126, _), (115, _)] (Sub.cons (e27 _ rfl) (Sub.cons (e28 _ rfl) (Sub.cons (e17 _ rfl) (Sub.refl _)))) ?_
                  refine W.wants rfl rfl rfl rfl ?_
                  refine W.geqI rfl rfl rfl ?_
                  refine W.nil ?_
                  exact At.step (Ext.refl _) rfl
                refine And.intro ?_ ?_
                · intro L_ wr hX_ hs_ hf_ hd_
                  obtain ⟨v23, e23, r23⟩ := hd_ 23 rfl
                  obtain rfl : (.bool (decide (ex ≤ r)) : Value) = v23 := Eq.symm r23
                  obtain ⟨v29, e29, r29⟩ := hd_ 29 rfl
                  obtain rfl : (.bool (decide (ex ≤ r)) : Value) = v29 := Eq.symm r29
                  obtain ⟨v17, e17, r17⟩ := hd_ 17 rfl
                  obtain rfl : (.bool false : Value) = v17 := Eq.symm r17
                  refine W.step [(121, _), (127, _), (115, _)] (Sub.cons (e23 _ rfl) (Sub.cons (e29 _ rfl) (Sub.cons (e17 _ rfl) (Sub.refl _)))) ?_
                  refine W.wants rfl rfl rfl rfl ?_
                  refine W.neqB rfl rfl Try.underlying4 rfl ?_
                  refine W.eqv (v' := .bool false) (by simp) ?_
                  refine W.nil ?_
                  exact At.step (Ext.refl _) rfl
                refine And.intro ?_ ?_
                · intro L_ wr hX_ hs_ hf_ hd_
                  obtain ⟨v17, e17, r17⟩ := hd_ 17 rfl
                  obtain rfl : (.bool false : Value) = v17 := Eq.symm r17
                  obtain ⟨v30, e30, r30⟩ := hd_ 30 rfl
                  obtain rfl : (.bool false : Value) = v30 := Eq.symm r30
                  refine W.step [(115, _), (128, _)] (Sub.cons (e17 _ rfl) (Sub.cons (e30 _ rfl) (Sub.refl _))) ?_
                  refine W.pickF rfl rfl rfl ?_
                  refine W.nil ?_
                  exact At.step (Ext.refl _) rfl
                exact trivial
              · intro L_ wr hX25 hs_ hv_
                obtain ⟨v31, e31, r31⟩ := hv_ 31 (by decide)
                obtain rfl : (.bool false : Value) = v31 := Eq.symm r31
                refine W.weaken (l' := [(129, _), (1, _), (2, _), (9, _), (10, _), (15, _), (16, _), (17, _), (18, _)]) (Sub.cons (e31 _ rfl) (Sub.cons (hs_ _ _ rfl) (Sub.cons (hs_ _ _ rfl) (Sub.cons (hs_ _ _ rfl) (Sub.cons (hs_ _ _ rfl) (Sub.cons (hs_ _ _ rfl) (Sub.cons (hs_ _ _ rfl) (Sub.cons (hs_ _ _ rfl) (Sub.cons (hs_ _ _ rfl) (Sub.nil)))))))))) ?_
                refine W.nil ?_
                refine At.thenCode ?_
                refine C.condF rfl ?_
                refine C.skip ?_
                refine At.blockNormal ?_
                refine At.thenCode ?_
                refine C.region ?_
                refine W.move rfl rfl ?_
                first | refine W.addI rfl rfl (by omega) rfl ?_ | refine W.addW rfl rfl rfl ?_
                refine W.assign rfl rfl ?_
                refine W.nil ?_
                refine At.thenRound (j + 1) (Sub.cons (rfl) (Sub.cons (rfl) (Sub.cons (rfl) (Sub.cons (rfl) (Sub.cons (rfl) (Sub.cons (rfl) (Sub.cons (look_eq rfl (by rw [hz])) (Sub.cons (look_eq rfl (iV (by omega))) (Sub.nil))))))))) (show (j + 1) ≤ ks.length ∧ Ext w83 _ from ?_) (show ks.length - (j + 1) < ks.length - j from ?_)
                · exact ⟨by omega, hX2.ext hX25⟩
                · omega
          · have hj' : j = ks.length := by omega
            subst hj'
            rw [List.take_length]
            have hSt2 := hSt83.ext hX2
            have hL2 := hL83.xt hX2
            have hfl : (fromL ks ex).length ≤ 20 := Nat.le_trans (List.length_filter_le _ _) (by omega)
            refine C.exit ?_
            refine At.thenExit ?_
            refine At.thenExit ?_
            refine At.blockSelf ?_
            refine At.thenCode ?_
            refine C.seq ?_
            refine C.seq ?_
            refine C.region ?_
            refine W.move rfl rfl ?_
            refine W.lssI rfl rfl rfl ?_
            refine W.move rfl rfl ?_
            first | refine W.splitD (fun g132 => ?_) (fun g132 => ?_) | refine W.splitB (fun g132 => ?_) (fun g132 => ?_)
            · refine W.skips rfl rfl rfl rfl rfl rfl ?_
              refine W.skips rfl rfl rfl rfl rfl rfl ?_
              refine W.skips rfl rfl rfl rfl rfl rfl ?_
              refine W.pickT rfl rfl rfl ?_
              refine W.nil ?_
              refine At.thenCode ?_
              refine C.condT rfl ?_
              refine C.seq ?_
              refine C.region ?_
              refine W.move rfl rfl ?_
              refine W.call Try.call14 rfl (Law23.num_ok _ _) rfl ?_
              rintro v138 w138 ⟨rfl, rfl⟩
              refine W.eqlI rfl rfl rfl ?_
              refine W.eqv (bT (rfl)) ?_
              refine W.move rfl rfl ?_
              refine W.wants rfl rfl rfl rfl ?_
              refine W.move rfl rfl ?_
              refine W.wants rfl rfl rfl rfl ?_
              refine W.call Try.call17 rfl (Mbx.Len_ok F g dg _ _ _ hSt2) rfl ?_
              rintro v142 w142 ⟨rfl, rfl⟩
              refine W.wants rfl rfl rfl rfl ?_
              refine W.move rfl rfl ?_
              refine W.wants rfl rfl rfl rfl ?_
              refine W.eqlI rfl rfl rfl ?_
              refine W.eqv (bT (by simp)) ?_
              refine W.pickT rfl rfl rfl ?_
              refine W.assign rfl rfl ?_
              refine W.nil ?_
              refine At.thenCode ?_
              refine C.ret ?_
              refine At.thenRet ?_
              refine At.ret1 Try.results3 rfl ?_
              first
              | exact ⟨rfl, Ext.below (hX20.ext hL149.ext)⟩
              | exact ⟨rfl, Ext.below (hX20.ext hL2.ext)⟩
              | exact ⟨rfl, Ext.below hX20⟩
            · refine W.wants rfl rfl rfl rfl ?_
              refine W.move rfl rfl ?_
              refine W.wants rfl rfl rfl rfl ?_
              refine W.move rfl rfl ?_
              refine W.wants rfl rfl rfl rfl ?_
              refine W.geqI rfl rfl rfl ?_
              refine W.pickF rfl rfl rfl ?_
              refine W.nil ?_
              refine At.thenCode ?_
              first | refine C.condD rfl (fun c136 => ?_) (fun c136 => ?_) | refine C.cond rfl (fun c136 => ?_) (fun c136 => ?_)
              · refine C.seq ?_
                refine C.region ?_
                refine W.move rfl rfl ?_
                refine W.call Try.call14 rfl (Law23.num_ok _ _) rfl ?_
                rintro v138 w138 ⟨rfl, rfl⟩
                refine W.eqlI rfl rfl rfl ?_
                refine W.eqv (bT (rfl)) ?_
                refine W.move rfl rfl ?_
                refine W.wants rfl rfl rfl rfl ?_
                refine W.move rfl rfl ?_
                refine W.wants rfl rfl rfl rfl ?_
                refine W.call Try.call17 rfl (Mbx.Len_ok F g dg _ _ _ hSt2) rfl ?_
                rintro v142 w142 ⟨rfl, rfl⟩
                refine W.wants rfl rfl rfl rfl ?_
                refine W.move rfl rfl ?_
                refine W.wants rfl rfl rfl rfl ?_
                refine W.eqlI rfl rfl rfl ?_
                refine W.eqv (bT (by simp)) ?_
                refine W.pickT rfl rfl rfl ?_
                refine W.assign rfl rfl ?_
                refine W.nil ?_
                refine At.thenCode ?_
                refine C.ret ?_
                refine At.thenRet ?_
                refine At.ret1 Try.results3 rfl ?_
                first
                | exact ⟨rfl, Ext.below (hX20.ext hL149.ext)⟩
                | exact ⟨rfl, Ext.below (hX20.ext hL2.ext)⟩
                | exact ⟨rfl, Ext.below hX20⟩
              · have hl0 : 0 ≤ late := by omega
                have hl1 : late < ex := by omega
                refine C.skip ?_
                refine At.thenCode ?_
                refine C.seq ?_
                refine C.region ?_
                refine W.move rfl rfl ?_
                refine W.move rfl rfl ?_
                refine W.buildS (fs := _) [(0, 1), (1, 1), (2, 1), (3, 1)] (batC (oB late 1) (.slice none 0 0) (.slice none 0 0)) [(.int .i64 0), (.int .i64 0), (.slice none 0 0), (.slice none 0 0)] Try.underlying33 (by kernel_rfl) (by kernel_rfl) rfl rfl rfl ?_
                have hbm2 : BatM (Fr w20 (fun k => Y k ∨ F k)) w2 (oB late 1) (.slice none 0 0) (.slice none 0 0) := batM_of (by constructor <;> omega) (by constructor <;> decide) (RNums.nilM _ _) (RSl.nilM _ _ _ _) (fun y hy => by simp at hy) (fun p hp => by simp at hp) (by simp) (by simp) (fun p hp => by simp at hp)
                have hbl2 := oB_len (r := late) (c := 1) (by constructor <;> omega) (by constructor <;> decide)
                have hmy : mayE (expireB B ex).s (oB late 1) = 13 := by rw [x3]; exact late_may hl0 hl1 he1
                obtain ⟨a1, a2⟩ := accept_may (B := expireB B ex) (x := oB late 1) (pubs := []) (by rw [hmy]; decide)
                refine W.call Try.call11 rfl (hL2.Accept (by decide) (ps := []) hbm2 (Els.nil _ _ _ _) (Nat.zero_le _) (by omega) (by omega) (by rw [x3, List.length_map]; omega)) rfl ?_
                rintro v149 w149 ⟨rfl, hL149, hC149⟩
                rw [a1, hmy]
                have hSt149 := hSt2.chg hC149 fun q hq hf => hf.1 (.inr hq)
                refine W.assign rfl rfl ?_
                refine W.nil ?_
                refine At.thenCode ?_
                refine C.seq ?_
                refine C.region ?_
                refine W.move rfl rfl ?_
                refine W.call Try.call14 rfl (Law23.num_ok _ _) rfl ?_
                rintro v151 w151 ⟨rfl, rfl⟩
                refine W.eqlI rfl rfl rfl ?_
                refine W.eqv (bT (rfl)) ?_
                refine W.move rfl rfl ?_
                refine W.wants rfl rfl rfl rfl ?_
                refine W.move rfl rfl ?_
                refine W.wants rfl rfl rfl rfl ?_
                refine W.call Try.call17 rfl (Mbx.Len_ok F g dg _ _ _ hSt149) rfl ?_
                rintro v155 w155 ⟨rfl, rfl⟩
                refine W.wants rfl rfl rfl rfl ?_
                refine W.move rfl rfl ?_
                refine W.wants rfl rfl rfl rfl ?_
                refine W.eqlI rfl rfl rfl ?_
                refine W.eqv (bT (by simp)) ?_
                refine W.pickT rfl rfl rfl ?_
                refine W.move rfl rfl ?_
                refine W.wants rfl rfl rfl rfl ?_
                refine W.move rfl rfl ?_
                refine W.wants rfl rfl rfl rfl ?_
                refine W.call Try.call14 rfl (Law23.num_ok _ _) rfl ?_
                rintro v161 w161 ⟨rfl, rfl⟩
                refine W.wants rfl rfl rfl rfl ?_
                refine W.eqlI rfl rfl rfl ?_
                refine W.eqv (bT (rfl)) ?_
                refine W.pickT rfl rfl rfl ?_
                refine W.assign rfl rfl ?_
                refine W.nil ?_
                refine At.thenCode ?_
                refine C.ret ?_
                refine At.ret1 Try.results3 rfl ?_
                first
                | exact ⟨rfl, Ext.below (hX20.ext hL149.ext)⟩
                | exact ⟨rfl, Ext.below (hX20.ext hL2.ext)⟩
                | exact ⟨rfl, Ext.below hX20⟩
end Go.Proofs.Ythiijdbiikljpaa.Law23
