/- Chapter 23: the walk of its law on torn records. -/
import Derived.Test.YthiijdbiikljpaaLaw23e
import Derived.Test.YthiijdbiikljpaaBigB
namespace Go.Proofs.Ythiijdbiikljpaa.Law23
open Go Go.RowKit Go.Proofs.Ythiijdbiikljpaa.KW Go.Proofs.Ythiijdbiikljpaa.Words Go.Proofs.Ythiijdbiikljpaa.Sha Go.Proofs.Ythiijdbiikljpaa.RSha Go.Proofs.Ythiijdbiikljpaa.Grp Go.Proofs.Ythiijdbiikljpaa.Cod Go.Proofs.Ythiijdbiikljpaa.Disk Go.Proofs.Ythiijdbiikljpaa.Mbx
set_option linter.unusedVariables false
set_option linter.unusedSimpArgs false
set_option maxRecDepth 100000
end Go.Proofs.Ythiijdbiikljpaa.Law23
namespace Go.Proofs.Ythiijdbiikljpaa.Mbx
open Go Go.RowKit Go.Proofs.Ythiijdbiikljpaa.KW Go.Proofs.Ythiijdbiikljpaa.Disk
section
variable {w0 w w' : World} {Y : Nat → Prop} {g dg : Nat} {rv : Int} {B : Box} {D : Dsk}
theorem LiveD.Bytes (h : LiveD w0 w Y dg rv D) :
    Ct Try.prog 22 #[.pointer (some ⟨dg, 0, none⟩)] w (fun v w' => (∃ ao c, v = .slice ao D.bs.length c ∧ Bs w' ao c D.bs) ∧ Ext w w') := by
  obtain ⟨Fd, h1, h2⟩ := h.out
  refine (Disk.Bytes_ok Fd dg rv D w h1).mono ?_
  rintro v w' ⟨⟨ao, c, rfl, hs, _⟩, hx⟩
  exact ⟨⟨ao, c, rfl, hs⟩, hx⟩
theorem LiveD.Cut (h : LiveD w0 w Y dg rv D) (n : Int) :
    Ct Try.prog 23 #[.pointer (some ⟨dg, 0, none⟩), .int .i64 n] w (fun v w' => v = .int .i64 (cutE D n : Int) ∧ LiveD w0 w' Y dg rv (cutD D n) ∧ Chg (Fr w0 Y) w w') := by
  obtain ⟨Fd, h1, h2⟩ := h.out
  refine (Disk.Cut_ok Fd dg rv D n w h1).mono ?_
  rintro v w' ⟨rfl, hD, hC⟩
  have hs := h.ext.size
  have hc : Chg (Fr w0 Y) w w' := hC.mono h2
  refine ⟨rfl, ⟨⟨_, hD, fun k hk => ?_⟩, h.ext.news hc fun k hk => .inr hk.2, fun k hk => Nat.lt_of_lt_of_le (h.y k hk) hc.size⟩, hc⟩
  rcases hk with hk | hk
  · exact h2 k hk
  · exact ⟨fun hy => by have := h.y k hy; omega, by omega⟩
end
end Go.Proofs.Ythiijdbiikljpaa.Mbx
namespace Go.Proofs.Ythiijdbiikljpaa.Law23
open Go Go.RowKit Go.Proofs.Ythiijdbiikljpaa.KW Go.Proofs.Ythiijdbiikljpaa.Words Go.Proofs.Ythiijdbiikljpaa.Sha Go.Proofs.Ythiijdbiikljpaa.RSha Go.Proofs.Ythiijdbiikljpaa.Grp Go.Proofs.Ythiijdbiikljpaa.Cod Go.Proofs.Ythiijdbiikljpaa.Disk Go.Proofs.Ythiijdbiikljpaa.Mbx
set_option linter.unusedVariables false
set_option linter.unusedSimpArgs false
set_option maxRecDepth 100000
/-- A disk that lost an end of its last record: what is opened then. -/
theorem torn_open {ps : List (List UInt8)} {p : List UInt8} {s : Bag} {m room : Nat} (hs : ∀ q ∈ ps, q.length < 4294967296) (hp : p.length < 4294967296) (hr : replay ⟨[], 0⟩ ps = some s) (h1 : (recsB ps).length ≤ m) (h2 : m < (recsB (ps ++ [p])).length) :
    openB ⟨room, (recsB (ps ++ [p])).take m, m, []⟩ = ⟨⟨room, recsB ps, (recsB ps).length, []⟩, s, none⟩ := by
  have hrec : (recsB (ps ++ [p])).length = (recsB ps).length + (recB p).length := by rw [recsB_snoc, List.length_append]
  have hb : (recsB (ps ++ [p])).take m = recsB ps ++ (recB p).take (m - (recsB ps).length) := by rw [recsB_snoc, List.take_append, List.take_of_length_le h1]
  have hsc : scanS ⟨[], 0⟩ ((recsB (ps ++ [p])).take m) = (s, (recsB ps).length) := by
    rw [hb, scan_recs ps ⟨[], 0⟩ s _ hs hr, scanS_stop (.inl (rec1_torn hp (by omega)))]
    rfl
  have hml : ((recsB (ps ++ [p])).take m).length = m := by rw [List.length_take]; omega
  unfold openB
  simp only [hsc, hml]
  by_cases h : (recsB ps).length < m
  · rw [if_pos h]
    have hcb : ¬ CutBad (⟨room, (recsB (ps ++ [p])).take m, m, []⟩ : Dsk) ((recsB ps).length : Nat) := by
      unfold CutBad; simp only [hml]; omega
    have hce : cutE (⟨room, (recsB (ps ++ [p])).take m, m, []⟩ : Dsk) ((recsB ps).length : Nat) = 0 := by unfold cutE; rw [if_neg (by simp [failB]), if_neg hcb]
    have hcd : cutD (⟨room, (recsB (ps ++ [p])).take m, m, []⟩ : Dsk) ((recsB ps).length : Nat) = ⟨room, recsB ps, (recsB ps).length, []⟩ := by
      unfold cutD
      rw [if_neg (by rintro (c | c); cases c; exact hcb c), if_neg (by rintro (c | c); cases c; exact hcb c), Int.toNat_natCast]
      show (⟨room, _, _, _⟩ : Dsk) = _
      rw [hb, List.take_append_of_le_length (Nat.le_refl _), List.take_of_length_le (Nat.le_refl _)]
      rfl
    rw [hce, hcd]
    rfl
  · rw [if_neg h]
    have hme : m = (recsB ps).length := by omega
    rw [hb, hme, Nat.sub_self, List.take_zero, List.append_nil]
def nB (i : Nat) : List BatD := (List.range i).map fun j : Nat => oB 3 (j : Int)
theorem nB_succ (i : Nat) : nB (i + 1) = nB i ++ [oB 3 (i : Int)] := by simp [nB, List.range_succ]
theorem nB_length (i : Nat) : (nB i).length = i := by simp [nB]
theorem nB_has (i : Nat) (r c : Int) : hasL (nB i) r c = decide (r = 3 ∧ 0 ≤ c ∧ c < (i : Int)) := by
  induction i with
  | zero =>
    have : ¬ (r = 3 ∧ 0 ≤ c ∧ c < ((0 : Nat) : Int)) := by omega
    rw [decide_eq_false this]; rfl
  | succ n ih =>
    rw [nB_succ, hasL_append, ih, Bool.eq_iff_iff]
    simp only [Bool.or_eq_true, decide_eq_true_eq]
    show _ ∨ ((3 : Int) = r ∧ (n : Int) = c) ↔ _
    omega
structure TornP (i b : Nat) (B : Box) (ps : List (List UInt8)) : Prop where
  good : Mbx.Good B ps
  room : B.D.room = 100000
  len : B.D.bs.length ≤ i * 100
  bag : B.s = ⟨nB i, 0⟩
  last : 0 < i → ∃ ps' p, ps = ps' ++ [p] ∧ b = (recsB ps').length ∧ replay ⟨[], 0⟩ ps' = some ⟨nB (i - 1), 0⟩
theorem torn_may {i : Nat} {B : Box} (h : B.s = ⟨nB i, 0⟩) {x : BatD} (h0 : 0 ≤ x.round) (h1 : x.round ≤ 1099511627776) (hc : (i : Int) ≤ x.chain) (he : batE x = 0) : mayE B.s x = 0 := by
  have h2 : hasL B.s.l x.round x.chain = false := by rw [h]; show hasL (nB i) _ _ = _; rw [nB_has]; exact decide_eq_false (by omega)
  have h3 : ¬ 1099511627776 < x.round := by omega
  have h4 : ¬ x.round < ((0 : Nat) : Int) := by omega
  have hp : B.s.past = 0 := by rw [h]
  unfold mayE
  rw [he, h2, hp, if_neg (by rintro (c | c); exact h3 c; cases c), if_neg (by decide), if_neg h4, if_neg (by decide)]
theorem TornP.step {i b : Nat} {B : Box} {ps : List (List UInt8)} (h : TornP i b B ps) (hi : i ≤ 8) : acceptE B (oB 3 (i : Int)) [] = 0 ∧ TornP (i + 1) B.D.bs.length (acceptB B (oB 3 (i : Int)) []) (ps ++ [1 :: batB (oB 3 (i : Int))]) := by
  have hr : InI 3 := by constructor <;> decide
  have hc : InI (i : Int) := by constructor <;> omega
  have hm : mayE B.s (oB 3 (i : Int)) = 0 := torn_may h.bag (show (0 : Int) ≤ 3 by decide) (show (3 : Int) ≤ 1099511627776 by decide) (Int.le_refl _) (oB_e (by decide) (by omega))
  have hbl := oB_len hr hc
  have hlen := h.len
  obtain ⟨g1, g2, g3, g4, g5⟩ := h.good.accept (x := oB 3 (i : Int)) (pubs := []) hm (oB_ok hr hc) rfl (by omega) (by have := h.room; omega)
  refine ⟨g1, g2, g4.trans h.room, by omega, ?_, fun _ => ⟨ps, _, rfl, by rw [h.good.bytes], ?_⟩⟩
  · rw [g3, h.bag]
    show (⟨nB i ++ [_], 0⟩ : Bag) = _
    rw [nB_succ]
  · rw [h.good.replay, h.bag]; rfl
/-- A batch as courierbag/codec writes it is what a store may take, but for its round. -/
theorem may_bat {s : Bag} {x : BatD} (h1 : x.round ≤ 1099511627776) (he : batE x ≠ 0) : mayE s x = batE x := by
  unfold mayE
  by_cases h : batE x = 1
  · rw [if_pos (.inr h), h]
  · rw [if_neg (by rintro (c | c); omega; exact h c), if_pos he]
theorem MailboxTorn_walk (n cut : Int) (x : BatD) (vi vl : Value) (w : World) (hn : -9223372036854775808 ≤ n ∧ n ≤ 9223372036854775807) (hcu : -9223372036854775808 ≤ cut ∧ cut ≤ 9223372036854775807) (hI : RNums (fun _ => False) w [vi] x.inner) (hL : RSl 33 RLet (fun _ => False) w [vl] x.lets) (ho : BatOk x) (hi : x.inner.length ≤ 9223372036854775807) (hl : x.lets.length ≤ 9223372036854775807) (hb : ∀ p ∈ x.lets, p.2.length ≤ 9223372036854775807) :
    Ct Try.prog 6 #[.int .i64 n, .int .i64 cut, .agg (batC x vi vl).toArray] w (LawOk w) := by
  obtain ⟨ao, c, rfl, _⟩ := hL.form
  obtain ⟨aI, cI, rfl, _, _, _⟩ := hI.form
  refine Ct.enter [(0, .int .i64 n), (1, .int .i64 cut), (2, .agg (batC x (.slice aI x.inner.length cI) (.slice ao x.lets.length c)).toArray)] Try.func6 rfl rfl rfl rfl ?_
  obtain ⟨hop0, hg0⟩ := Good.new 100000
  rw [show (⟨⟨100000, [], 0, []⟩, ⟨[], 0⟩, none⟩ : Box) = B0 100000 from rfl] at hop0 hg0
  have hir := ho.1
  have hic := ho.2.1
  refine C.seq ?_
  refine C.region ?_
  refine W.box (batC x (.slice aI x.inner.length cI) (.slice ao x.lets.length c)) rfl rfl rfl ?_
  intro g5 w5 hg5 hX5 hB5
  refine W.assign rfl rfl ?_
  refine W.nil ?_
  refine At.thenCode ?_
  refine C.seq ?_
  refine C.region ?_
  refine W.call Try.call8 rfl (Law23.alive_ok _) rfl ?_
  rintro v20 w20 ⟨rfl, hX20⟩
  have hXa := hX5.ext hX20
  have hBa := hB5.ext hX20
  have hIa := RdOk.ext rNums hI hXa
  have hLa := RdOk.ext (rSl 33 rLet) hL hXa
  refine W.assign rfl rfl ?_
  refine W.nil ?_
  refine At.thenCode ?_
  refine C.seq ?_
  refine C.region ?_
  refine W.loadA rfl (hBa.cells (o := 0)) Try.underlying33 rfl (by kernel_rfl) rfl ?_
  rw [List.drop_zero]
  refine W.call Try.call21 rfl (Law11.BigBatch_ok x _ _ _ hIa hLa hi hl) rfl ?_
  rintro v22 w22 ⟨big, rfl, hbig, hX22⟩
  have hXb := hXa.ext hX22
  have hBb := hBa.ext hX22
  have hIb := RdOk.ext rNums hIa hX22
  have hLb := RdOk.ext (rSl 33 rLet) hLa hX22
  refine W.assign rfl rfl ?_
  refine W.nil ?_
  refine At.thenCode ?_
  refine C.seq ?_
  refine C.seq ?_
  refine C.region ?_
  refine W.move rfl rfl ?_
  first | refine W.notD rfl rfl ?_ | refine W.notB rfl rfl ?_
  refine W.eqv (v' := .bool false) (rfl) ?_
  refine W.move rfl rfl ?_
  refine W.wants rfl rfl rfl rfl ?_
  refine W.move rfl rfl ?_
  refine W.pickF rfl rfl rfl ?_
  refine W.move rfl rfl ?_
  first | refine W.splitD (fun g28 => ?_) (fun g28 => ?_) | refine W.splitB (fun g28 => ?_) (fun g28 => ?_)
  · refine W.skips rfl rfl rfl rfl rfl rfl ?_
    refine W.skips rfl rfl rfl rfl rfl rfl ?_
    refine W.pickT rfl rfl rfl ?_
    refine W.move rfl rfl ?_
    refine W.skips rfl rfl rfl rfl rfl rfl ?_
    refine W.skips rfl rfl rfl rfl rfl rfl ?_
    refine W.pickT rfl rfl rfl ?_
    refine W.move rfl rfl ?_
    refine W.skips rfl rfl rfl rfl rfl rfl ?_
    refine W.skips rfl rfl rfl rfl rfl rfl ?_
    refine W.pickT rfl rfl rfl ?_
    refine W.move rfl rfl ?_
    refine W.skips rfl rfl rfl rfl rfl rfl ?_
    refine W.skips rfl rfl rfl rfl rfl rfl ?_
    refine W.skips rfl rfl rfl rfl rfl rfl ?_
    refine W.pickT rfl rfl rfl ?_
    refine W.move rfl rfl ?_
    refine W.skips rfl rfl rfl rfl rfl rfl ?_
    refine W.skips rfl rfl rfl rfl rfl rfl ?_
    refine W.skips rfl rfl rfl rfl rfl rfl ?_
    refine W.pickT rfl rfl rfl ?_
    refine W.move rfl rfl ?_
    refine W.skips rfl rfl rfl rfl rfl rfl ?_
    refine W.skips rfl rfl rfl rfl rfl rfl ?_
    refine W.skips rfl rfl rfl rfl rfl rfl ?_
    refine W.pickT rfl rfl rfl ?_
    refine W.move rfl rfl ?_
    refine W.skips rfl rfl rfl rfl rfl rfl ?_
    refine W.skips rfl rfl rfl rfl rfl rfl ?_
    refine W.skips rfl rfl rfl rfl rfl rfl ?_
    refine W.skips rfl rfl rfl rfl rfl rfl ?_
    refine W.pickT rfl rfl rfl ?_
    refine W.nil ?_
    refine At.thenCode ?_
    refine C.condT rfl ?_
    refine C.seq ?_
    refine C.region ?_
    refine W.move rfl rfl ?_
    refine W.assign rfl rfl ?_
    refine W.nil ?_
    refine At.thenCode ?_
    refine C.ret ?_
    refine At.thenRet ?_
    refine At.ret1 Try.results6 rfl ?_
    first
    | exact ⟨rfl, Ext.below (hXb.ext hL136.ext)⟩
    | exact ⟨rfl, Ext.below (hXb.ext hL126.ext)⟩
    | exact ⟨rfl, Ext.below hXb⟩
  · refine W.wants rfl rfl rfl rfl ?_
    refine W.move rfl rfl ?_
    refine W.wants rfl rfl rfl rfl ?_
    refine W.lssI rfl rfl rfl ?_
    refine W.pickF rfl rfl rfl ?_
    refine W.move rfl rfl ?_
    first | refine W.splitD (fun g32 => ?_) (fun g32 => ?_) | refine W.splitB (fun g32 => ?_) (fun g32 => ?_)
    · refine W.skips rfl rfl rfl rfl rfl rfl ?_
      refine W.skips rfl rfl rfl rfl rfl rfl ?_
      refine W.pickT rfl rfl rfl ?_
      refine W.move rfl rfl ?_
      refine W.skips rfl rfl rfl rfl rfl rfl ?_
      refine W.skips rfl rfl rfl rfl rfl rfl ?_
      refine W.pickT rfl rfl rfl ?_
      refine W.move rfl rfl ?_
      refine W.skips rfl rfl rfl rfl rfl rfl ?_
      refine W.skips rfl rfl rfl rfl rfl rfl ?_
      refine W.skips rfl rfl rfl rfl rfl rfl ?_
      refine W.pickT rfl rfl rfl ?_
      refine W.move rfl rfl ?_
      refine W.skips rfl rfl rfl rfl rfl rfl ?_
      refine W.skips rfl rfl rfl rfl rfl rfl ?_
      refine W.skips rfl rfl rfl rfl rfl rfl ?_
      refine W.pickT rfl rfl rfl ?_
      refine W.move rfl rfl ?_
      refine W.skips rfl rfl rfl rfl rfl rfl ?_
      refine W.skips rfl rfl rfl rfl rfl rfl ?_
      refine W.skips rfl rfl rfl rfl rfl rfl ?_
      refine W.pickT rfl rfl rfl ?_
      refine W.move rfl rfl ?_
      refine W.skips rfl rfl rfl rfl rfl rfl ?_
      refine W.skips rfl rfl rfl rfl rfl rfl ?_
      refine W.skips rfl rfl rfl rfl rfl rfl ?_
      refine W.skips rfl rfl rfl rfl rfl rfl ?_
      refine W.pickT rfl rfl rfl ?_
      refine W.nil ?_
      refine At.thenCode ?_
      refine C.condT rfl ?_
      refine C.seq ?_
      refine C.region ?_
      refine W.move rfl rfl ?_
      refine W.assign rfl rfl ?_
      refine W.nil ?_
      refine At.thenCode ?_
      refine C.ret ?_
      refine At.thenRet ?_
      refine At.ret1 Try.results6 rfl ?_
      first
      | exact ⟨rfl, Ext.below (hXb.ext hL136.ext)⟩
      | exact ⟨rfl, Ext.below (hXb.ext hL126.ext)⟩
      | exact ⟨rfl, Ext.below hXb⟩
    · refine W.wants rfl rfl rfl rfl ?_
      refine W.move rfl rfl ?_
      refine W.wants rfl rfl rfl rfl ?_
      refine W.gtrI rfl rfl rfl ?_
      refine W.pickF rfl rfl rfl ?_
      refine W.move rfl rfl ?_
      first | refine W.splitD (fun g36 => ?_) (fun g36 => ?_) | refine W.splitB (fun g36 => ?_) (fun g36 => ?_)
      · refine W.skips rfl rfl rfl rfl rfl rfl ?_
        refine W.skips rfl rfl rfl rfl rfl rfl ?_
        refine W.pickT rfl rfl rfl ?_
        refine W.move rfl rfl ?_
        refine W.skips rfl rfl rfl rfl rfl rfl ?_
        refine W.skips rfl rfl rfl rfl rfl rfl ?_
        refine W.skips rfl rfl rfl rfl rfl rfl ?_
        refine W.pickT rfl rfl rfl ?_
        refine W.move rfl rfl ?_
        refine W.skips rfl rfl rfl rfl rfl rfl ?_
        refine W.skips rfl rfl rfl rfl rfl rfl ?_
        refine W.skips rfl rfl rfl rfl rfl rfl ?_
        refine W.pickT rfl rfl rfl ?_
        refine W.move rfl rfl ?_
        refine W.skips rfl rfl rfl rfl rfl rfl ?_
        refine W.skips rfl rfl rfl rfl rfl rfl ?_
        refine W.skips rfl rfl rfl rfl rfl rfl ?_
        refine W.pickT rfl rfl rfl ?_
        refine W.move rfl rfl ?_
        refine W.skips rfl rfl rfl rfl rfl rfl ?_
        refine W.skips rfl rfl rfl rfl rfl rfl ?_
        refine W.skips rfl rfl rfl rfl rfl rfl ?_
        refine W.skips rfl rfl rfl rfl rfl rfl ?_
        refine W.pickT rfl rfl rfl ?_
        refine W.nil ?_
        refine At.thenCode ?_
        refine C.condT rfl ?_
        refine C.seq ?_
        refine C.region ?_
        refine W.move rfl rfl ?_
        refine W.assign rfl rfl ?_
        refine W.nil ?_
        refine At.thenCode ?_
        refine C.ret ?_
        refine At.thenRet ?_
        refine At.ret1 Try.results6 rfl ?_
        first
        | exact ⟨rfl, Ext.below (hXb.ext hL136.ext)⟩
        | exact ⟨rfl, Ext.below (hXb.ext hL126.ext)⟩
        | exact ⟨rfl, Ext.below hXb⟩
      · refine W.wants rfl rfl rfl rfl ?_
        refine W.move rfl rfl ?_
        refine W.wants rfl rfl rfl rfl ?_
        refine W.lssI rfl rfl rfl ?_
        refine W.pickF rfl rfl rfl ?_
        refine W.move rfl rfl ?_
        first | refine W.splitD (fun g40 => ?_) (fun g40 => ?_) | refine W.splitB (fun g40 => ?_) (fun g40 => ?_)
        · refine W.skips rfl rfl rfl rfl rfl rfl ?_
          refine W.skips rfl rfl rfl rfl rfl rfl ?_
          refine W.skips rfl rfl rfl rfl rfl rfl ?_
          refine W.pickT rfl rfl rfl ?_
          refine W.move rfl rfl ?_
          refine W.skips rfl rfl rfl rfl rfl rfl ?_
          refine W.skips rfl rfl rfl rfl rfl rfl ?_
          refine W.skips rfl rfl rfl rfl rfl rfl ?_
          refine W.pickT rfl rfl rfl ?_
          refine W.move rfl rfl ?_
          refine W.skips rfl rfl rfl rfl rfl rfl ?_
          refine W.skips rfl rfl rfl rfl rfl rfl ?_
          refine W.skips rfl rfl rfl rfl rfl rfl ?_
          refine W.pickT rfl rfl rfl ?_
          refine W.move rfl rfl ?_
          refine W.skips rfl rfl rfl rfl rfl rfl ?_
          refine W.skips rfl rfl rfl rfl rfl rfl ?_
          refine W.skips rfl rfl rfl rfl rfl rfl ?_
          refine W.skips rfl rfl rfl rfl rfl rfl ?_
          refine W.pickT rfl rfl rfl ?_
          refine W.nil ?_
          refine At.thenCode ?_
          refine C.condT rfl ?_
          refine C.seq ?_
          refine C.region ?_
          refine W.move rfl rfl ?_
          refine W.assign rfl rfl ?_
          refine W.nil ?_
          refine At.thenCode ?_
          refine C.ret ?_
          refine At.thenRet ?_
          refine At.ret1 Try.results6 rfl ?_
          first
          | exact ⟨rfl, Ext.below (hXb.ext hL136.ext)⟩
          | exact ⟨rfl, Ext.below (hXb.ext hL126.ext)⟩
          | exact ⟨rfl, Ext.below hXb⟩
        · refine W.wants rfl rfl rfl rfl ?_
          refine W.fieldB (off := 0) (size := 1) (t := 3) (Fld.of (by kernel_rfl)) rfl rfl rfl ?_
          refine W.wants rfl rfl rfl rfl ?_
          refine W.loadB (v := .int .i64 x.round) rfl Try.underlying3 rfl hBb rfl rfl ?_
          refine W.wants rfl rfl rfl rfl ?_
          refine W.lssI rfl rfl rfl ?_
          refine W.pickF rfl rfl rfl ?_
          refine W.move rfl rfl ?_
          first | refine W.splitD (fun g45 => ?_) (fun g45 => ?_) | refine W.splitB (fun g45 => ?_) (fun g45 => ?_)
          · refine W.skips rfl rfl rfl rfl rfl rfl ?_
            refine W.skips rfl rfl rfl rfl rfl rfl ?_
            refine W.skips rfl rfl rfl rfl rfl rfl ?_
            refine W.pickT rfl rfl rfl ?_
            refine W.move rfl rfl ?_
            refine W.skips rfl rfl rfl rfl rfl rfl ?_
            refine W.skips rfl rfl rfl rfl rfl rfl ?_
            refine W.skips rfl rfl rfl rfl rfl rfl ?_
            refine W.pickT rfl rfl rfl ?_
            refine W.move rfl rfl ?_
            refine W.skips rfl rfl rfl rfl rfl rfl ?_
            refine W.skips rfl rfl rfl rfl rfl rfl ?_
            refine W.skips rfl rfl rfl rfl rfl rfl ?_
            refine W.skips rfl rfl rfl rfl rfl rfl ?_
            refine W.pickT rfl rfl rfl ?_
            refine W.nil ?_
            refine At.thenCode ?_
            refine C.condT rfl ?_
            refine C.seq ?_
            refine C.region ?_
            refine W.move rfl rfl ?_
            refine W.assign rfl rfl ?_
            refine W.nil ?_
            refine At.thenCode ?_
            refine C.ret ?_
            refine At.thenRet ?_
            refine At.ret1 Try.results6 rfl ?_
            first
            | exact ⟨rfl, Ext.below (hXb.ext hL136.ext)⟩
            | exact ⟨rfl, Ext.below (hXb.ext hL126.ext)⟩
            | exact ⟨rfl, Ext.below hXb⟩
          · refine W.wants rfl rfl rfl rfl ?_
            refine W.fieldB (off := 0) (size := 1) (t := 3) (Fld.of (by kernel_rfl)) rfl rfl rfl ?_
            refine W.wants rfl rfl rfl rfl ?_
            refine W.loadB (v := .int .i64 x.round) rfl Try.underlying3 rfl hBb rfl rfl ?_
            refine W.wants rfl rfl rfl rfl ?_
            refine W.gtrI rfl rfl rfl ?_
            refine W.pickF rfl rfl rfl ?_
            refine W.move rfl rfl ?_
            first | refine W.splitD (fun g50 => ?_) (fun g50 => ?_) | refine W.splitB (fun g50 => ?_) (fun g50 => ?_)
            · refine W.skips rfl rfl rfl rfl rfl rfl ?_
              refine W.skips rfl rfl rfl rfl rfl rfl ?_
              refine W.skips rfl rfl rfl rfl rfl rfl ?_
              refine W.pickT rfl rfl rfl ?_
              refine W.move rfl rfl ?_
              refine W.skips rfl rfl rfl rfl rfl rfl ?_
              refine W.skips rfl rfl rfl rfl rfl rfl ?_
              refine W.skips rfl rfl rfl rfl rfl rfl ?_
              refine W.skips rfl rfl rfl rfl rfl rfl ?_
              refine W.pickT rfl rfl rfl ?_
              refine W.nil ?_
              refine At.thenCode ?_
              refine C.condT rfl ?_
              refine C.seq ?_
              refine C.region ?_
              refine W.move rfl rfl ?_
              refine W.assign rfl rfl ?_
              refine W.nil ?_
              refine At.thenCode ?_
              refine C.ret ?_
              refine At.thenRet ?_
              refine At.ret1 Try.results6 rfl ?_
              first
              | exact ⟨rfl, Ext.below (hXb.ext hL136.ext)⟩
              | exact ⟨rfl, Ext.below (hXb.ext hL126.ext)⟩
              | exact ⟨rfl, Ext.below hXb⟩
            · refine W.wants rfl rfl rfl rfl ?_
              refine W.fieldB (off := 1) (size := 1) (t := 3) (Fld.of (by kernel_rfl)) rfl rfl rfl ?_
              refine W.wants rfl rfl rfl rfl ?_
              refine W.loadB (v := .int .i64 x.chain) rfl Try.underlying3 rfl hBb rfl rfl ?_
              refine W.wants rfl rfl rfl rfl ?_
              refine W.lssI rfl rfl rfl ?_
              refine W.pickF rfl rfl rfl ?_
              refine W.move rfl rfl ?_
              first | refine W.splitD (fun g55 => ?_) (fun g55 => ?_) | refine W.splitB (fun g55 => ?_) (fun g55 => ?_)
              · refine W.skips rfl rfl rfl rfl rfl rfl ?_
                refine W.skips rfl rfl rfl rfl rfl rfl ?_
                refine W.skips rfl rfl rfl rfl rfl rfl ?_
                refine W.skips rfl rfl rfl rfl rfl rfl ?_
                refine W.pickT rfl rfl rfl ?_
                refine W.nil ?_
                refine At.thenCode ?_
                refine C.condT rfl ?_
                refine C.seq ?_
                refine C.region ?_
                refine W.move rfl rfl ?_
                refine W.assign rfl rfl ?_
                refine W.nil ?_
                refine At.thenCode ?_
                refine C.ret ?_
                refine At.thenRet ?_
                refine At.ret1 Try.results6 rfl ?_
                first
                | exact ⟨rfl, Ext.below (hXb.ext hL136.ext)⟩
                | exact ⟨rfl, Ext.below (hXb.ext hL126.ext)⟩
                | exact ⟨rfl, Ext.below hXb⟩
              · refine W.wants rfl rfl rfl rfl ?_
                refine W.fieldB (off := 2) (size := 1) (t := 30) (Fld.of (by kernel_rfl)) rfl rfl rfl ?_
                refine W.wants rfl rfl rfl rfl ?_
                refine W.loadB (v := .slice aI x.inner.length cI) rfl Try.underlying30 rfl hBb rfl rfl ?_
                refine W.wants rfl rfl rfl rfl ?_
                refine W.lenS rfl Try.underlying30 rfl ?_
                refine W.wants rfl rfl rfl rfl ?_
                refine W.gtrI rfl rfl rfl ?_
                refine W.pickF rfl rfl rfl ?_
                refine W.nil ?_
                refine At.thenCode ?_
                first | refine C.condD rfl (fun c60 => ?_) (fun c60 => ?_) | refine C.cond rfl (fun c60 => ?_) (fun c60 => ?_)
                · refine C.seq ?_
                  refine C.region ?_
                  refine W.move rfl rfl ?_
                  refine W.assign rfl rfl ?_
                  refine W.nil ?_
                  refine At.thenCode ?_
                  refine C.ret ?_
                  refine At.thenRet ?_
                  refine At.ret1 Try.results6 rfl ?_
                  first
                  | exact ⟨rfl, Ext.below (hXb.ext hL136.ext)⟩
                  | exact ⟨rfl, Ext.below (hXb.ext hL126.ext)⟩
                  | exact ⟨rfl, Ext.below hXb⟩
                · have hg1 : big = false := by first | simpa using g28 | (simp at *; omega) | simp_all
                  obtain ⟨hs30, hs31, hs300⟩ := hbig hg1
                  have hn1 : 1 ≤ n ∧ n ≤ 8 := by omega
                  have hc1 : 1 ≤ cut := by omega
                  have hr1 : 0 ≤ x.round ∧ x.round ≤ 1099511627776 := by omega
                  have hch : 100 ≤ x.chain := by omega
                  have hin0 : x.inner = [] := List.eq_nil_of_length_eq_zero (by omega)
                  obtain ⟨N, rfl⟩ : ∃ N : Nat, n = N := ⟨n.toNat, by omega⟩
                  have hbl : (batB x).length ≤ 20000 := by have := batB_len ho (m := 300) hs300; omega
                  refine C.skip ?_
                  refine At.thenCode ?_
                  refine C.seq ?_
                  refine C.region ?_
                  refine W.call Try.call9 rfl (LiveD.New (w0 := w22) (Y := fun _ => False) 100000 (Ext.refl _) (fun _ h => h.elim) (by decide)) rfl ?_
                  rintro v62 w62 ⟨dg, rfl, hD62, hX62⟩
                  refine W.assign rfl rfl ?_
                  refine W.nil ?_
                  refine At.thenCode ?_
                  refine C.seq ?_
                  refine C.region ?_
                  refine W.move rfl rfl ?_
                  refine W.call Try.call10 rfl (hD62.Open (Nat.zero_le _)) rfl ?_
                  rintro v64 w64 ⟨g, rfl, hL64, hC64⟩
                  have hL64 : Live w22 w64 (fun _ => False) g dg (max 0 100000) (B0 100000) := by have := hL64; rwa [show (100000 : Int).toNat = 100000 from rfl, hop0] at this
                  refine W.assign rfl rfl ?_
                  refine W.nil ?_
                  refine At.thenCode ?_
                  refine C.seq ?_
                  refine C.region ?_
                  refine W.assign rfl rfl ?_
                  refine W.nil ?_
                  refine At.thenCode ?_
                  refine C.seq ?_
                  refine C.seq ?_
                  refine C.region ?_
                  refine W.assign rfl rfl ?_
                  refine W.nil ?_
                  refine At.thenCode ?_
                  refine C.block ?_
                  refine C.loop (X := Nat × Nat × Box × ((List (List UInt8)))) (fun x_ => [(0, .int .i64 (N : Int)), (1, .int .i64 cut), (5, .pointer (some ⟨g5, 0, none⟩)), (9, .pointer (some ⟨dg, 0, none⟩)), (10, .pointer (some ⟨g, 0, none⟩)), (11, .int .i64 (x_.2.1 : Int)), (12, .int .i64 (x_.1 : Int))]) (fun x_ w1 => x_.1 ≤ N ∧ Live w22 w1 (fun _ => False) g dg (max 0 100000) x_.2.2.1 ∧ TornP x_.1 x_.2.1 x_.2.2.1 x_.2.2.2) (fun x_ => N - x_.1) (0, 0, B0 100000, []) (Sub.cons (rfl) (Sub.cons (rfl) (Sub.cons (rfl) (Sub.cons (rfl) (Sub.cons (rfl) (Sub.cons (rfl) (Sub.cons (rfl) (Sub.nil)))))))) ?start1 ?_
                  case start1 =>
                    show (0) ≤ N ∧ Live w22 _ (fun _ => False) g dg (max 0 100000) (B0 100000) ∧ TornP (0) (0) (B0 100000) ([])
                    exact ⟨by omega, hL64, hg0, rfl, Nat.zero_le _, rfl, fun h => absurd h (by decide)⟩
                  rintro ⟨i, b, B, ps⟩ w1 hI_
                  replace hI_ : i ≤ N ∧ Live w22 w1 (fun _ => False) g dg (max 0 100000) B ∧ TornP i b B ps := hI_
                  obtain ⟨hi1, hL1, hT1⟩ := hI_
                  refine C.weaken (l' := [(0, .int .i64 (N : Int)), (1, .int .i64 cut), (5, .pointer (some ⟨g5, 0, none⟩)), (9, .pointer (some ⟨dg, 0, none⟩)), (10, .pointer (some ⟨g, 0, none⟩)), (11, .int .i64 (b : Int)), (12, .int .i64 (i : Int))]) (Sub.cons (rfl) (Sub.cons (rfl) (Sub.cons (rfl) (Sub.cons (rfl) (Sub.cons (rfl) (Sub.cons (rfl) (Sub.cons (rfl) (Sub.nil)))))))) ?_
                  refine C.seq ?_
                  refine C.seq ?_
                  refine C.region ?_
                  refine W.move rfl rfl ?_
                  refine W.move rfl rfl ?_
                  refine W.lssI rfl rfl rfl ?_
                  refine W.nil ?_
                  refine At.thenCode ?_
                  first | refine C.condD rfl (fun c67 => ?_) (fun c67 => ?_) | refine C.cond rfl (fun c67 => ?_) (fun c67 => ?_)
                  · have hlt : i < N := by omega
                    have hlen1 := hT1.len
                    refine C.skip ?_
                    refine At.thenCode ?_
                    refine C.seq ?_
                    refine C.block ?_
                    refine C.seq ?_
                    refine C.region ?_
                    refine W.move rfl rfl ?_
                    refine W.call Try.call22 rfl hL1.disk.Bytes rfl ?_
                    rintro v71 w71 ⟨⟨a71, c71, rfl, _⟩, hX71⟩
                    have hL71 := hL1.xt hX71
                    refine W.lenS rfl Try.underlying51 rfl ?_
                    refine W.assign rfl rfl ?_
                    refine W.nil ?_
                    refine At.thenCode ?_
                    refine C.seq ?_
                    refine C.region ?_
                    refine W.move rfl rfl ?_
                    refine W.move rfl rfl ?_
                    refine W.buildS (fs := _) [(0, 1), (1, 1), (2, 1), (3, 1)] (batC (oB 3 (i : Int)) (.slice none 0 0) (.slice none 0 0)) [(.int .i64 0), (.int .i64 0), (.slice none 0 0), (.slice none 0 0)] Try.underlying33 (by kernel_rfl) (by kernel_rfl) rfl rfl rfl ?_
                    have hbm : BatM (Fr w22 (fun _ => False)) w71 (oB 3 (i : Int)) (.slice none 0 0) (.slice none 0 0) := batM_of (by constructor <;> decide) (by constructor <;> omega) (RNums.nilM _ _) (RSl.nilM _ _ _ _) (fun y hy => by simp at hy) (fun p hp => by simp at hp) (by simp) (by simp) (fun p hp => by simp at hp)
                    have hob := oB_len (r := 3) (c := (i : Int)) (by constructor <;> decide) (by constructor <;> omega)
                    obtain ⟨q1, hT2⟩ := hT1.step (by omega)
                    refine W.call Try.call11 rfl (hL71.Accept (by decide) (ps := []) hbm (Els.nil _ _ _ _) (Nat.zero_le _) (by omega) (by omega) (by rw [hT1.bag]; show (nB i).length ≤ _; rw [nB_length]; omega)) rfl ?_
                    rintro v76 w76 ⟨rfl, hL76, hC76⟩
                    rw [q1]
                    refine W.assign rfl rfl ?_
                    refine W.nil ?_
                    refine At.thenCode ?_
                    refine C.seq ?_
                    refine C.region ?_
                    refine W.move rfl rfl ?_
                    refine W.call Try.call14 rfl (Law23.num_ok _ _) rfl ?_
                    rintro v78 w78 ⟨rfl, rfl⟩
                    refine W.neqI rfl rfl rfl ?_
                    refine W.eqv (bF (fun h => h rfl)) ?_
                    refine W.nil ?_
                    refine At.thenCode ?_
                    refine C.condF rfl ?_
                    refine C.skip ?_
                    refine At.blockNormal ?_
                    refine At.thenCode ?_
                    refine C.region ?_
                    refine W.move rfl rfl ?_
                    first | refine W.addI rfl rfl (by omega) rfl ?_ | refine W.addW rfl rfl rfl ?_
                    refine W.assign rfl rfl ?_
                    refine W.nil ?_
                    refine At.thenRound (i + 1, B.D.bs.length, acceptB B (oB 3 (i : Int)) [], ps ++ [1 :: batB (oB 3 (i : Int))]) (Sub.cons (rfl) (Sub.cons (rfl) (Sub.cons (rfl) (Sub.cons (rfl) (Sub.cons (rfl) (Sub.cons (rfl) (Sub.cons (look_eq rfl (iV (by omega))) (Sub.nil)))))))) (show (i + 1) ≤ N ∧ Live w22 _ (fun _ => False) g dg (max 0 100000) (acceptB B (oB 3 (i : Int)) []) ∧ TornP (i + 1) (B.D.bs.length) (acceptB B (oB 3 (i : Int)) []) (ps ++ [1 :: batB (oB 3 (i : Int))]) from ?_) (show N - (i + 1) < N - i from ?_)
                    · exact ⟨by omega, hL76, hT2⟩
                    · omega
                  · have hi' : i = N := by omega
                    subst hi'
                    have hlen1 := hT1.len
                    obtain ⟨ps', p, hps, hbe, hrep⟩ := hT1.last (by omega)
                    have hsm := hT1.good.small
                    have hby := hT1.good.bytes
                    have hrec : (recsB ps).length = b + (12 + p.length) := by rw [hps, recsB_snoc, List.length_append, recB_length, hbe]
                    have hbl1 : B.D.bs.length = b + (12 + p.length) := by rw [hby, hrec]
                    obtain ⟨md, hmd⟩ : ∃ md, md = (cut - 1) % (((B.D.bs.length : Nat) : Int) - (b : Int)) := ⟨_, rfl⟩
                    have hmd0 : 0 ≤ md := by rw [hmd]; exact Int.emod_nonneg _ (by omega)
                    have hmd1 : md < 12 + p.length := by rw [hmd]; have := Int.emod_lt_of_pos (cut - 1) (show (0 : Int) < ((B.D.bs.length : Nat) : Int) - (b : Int) by omega); omega
                    obtain ⟨m, hm⟩ : ∃ m : Nat, (m : Int) = ((B.D.bs.length : Nat) : Int) - 1 - md := ⟨(((B.D.bs.length : Nat) : Int) - 1 - md).toNat, by omega⟩
                    have hDe : cutE B.D (m : Int) = 0 ∧ cutD B.D (m : Int) = ⟨100000, (recsB (ps' ++ [p])).take m, m, []⟩ := by
                      have hf := hT1.good.fails
                      have hcb : ¬ CutBad B.D (m : Int) := by unfold CutBad; omega
                      have hfb : failB B.D = false := by unfold failB; rw [hf]
                      refine ⟨by unfold cutE; rw [if_neg (by rw [hfb]; decide), if_neg hcb], ?_⟩
                      unfold cutD
                      rw [if_neg (by rintro (c | c); rw [hfb] at c; cases c; exact hcb c), if_neg (by rintro (c | c); rw [hfb] at c; cases c; exact hcb c), hT1.room, hby, hf, hps, Int.toNat_natCast]
                      rfl
                    have hop2 := torn_open (room := 100000) (m := m) (fun q hq => hsm q (by rw [hps]; simp [hq])) (hsm p (by rw [hps]; simp)) hrep (by omega) (by rw [← hps]; omega)
                    obtain ⟨B2, hB2⟩ : ∃ B2 : Box, B2 = ⟨⟨100000, recsB ps', (recsB ps').length, []⟩, ⟨nB (i - 1), 0⟩, none⟩ := ⟨_, rfl⟩
                    rw [← hB2] at hop2
                    have hG2 : Mbx.Good B2 ps' := by rw [hB2]; exact ⟨rfl, rfl, rfl, rfl, fun q hq => hsm q (by rw [hps]; simp [hq]), hrep⟩
                    have hs2 : B2.s = ⟨nB (i - 1), 0⟩ := by rw [hB2]
                    have hl2 : B2.D.bs.length = b := by rw [hB2, hbe]
                    have hr2 : B2.D.room = 100000 := by rw [hB2]
                    refine C.exit ?_
                    refine At.thenExit ?_
                    refine At.thenExit ?_
                    refine At.blockSelf ?_
                    refine At.thenCode ?_
                    refine C.seq ?_
                    refine C.region ?_
                    refine W.move rfl rfl ?_
                    refine W.call Try.call22 rfl hL1.disk.Bytes rfl ?_
                    rintro v81 w81 ⟨⟨a81, c81, rfl, _⟩, hX81⟩
                    have hL81 := hL1.xt hX81
                    refine W.lenS rfl Try.underlying51 rfl ?_
                    refine W.assign rfl rfl ?_
                    refine W.nil ?_
                    refine At.thenCode ?_
                    refine C.seq ?_
                    refine C.seq ?_
                    refine C.region ?_
                    refine W.move rfl rfl ?_
                    refine W.move rfl rfl ?_
                    refine W.leqI rfl rfl rfl ?_
                    refine W.eqv (bF (by omega)) ?_
                    refine W.nil ?_
                    refine At.thenCode ?_
                    refine C.condF rfl ?_
                    refine C.skip ?_
                    refine At.thenCode ?_
                    refine C.seq ?_
                    refine C.region ?_
                    refine W.move rfl rfl ?_
                    refine W.move rfl rfl ?_
                    first | refine W.subI rfl rfl (by omega) rfl ?_ | refine W.subW rfl rfl rfl ?_
                    refine W.move rfl rfl ?_
                    first | refine W.subI rfl rfl (by omega) rfl ?_ | refine W.subW rfl rfl rfl ?_
                    refine W.move rfl rfl ?_
                    refine W.move rfl rfl ?_
                    first | refine W.subI rfl rfl (by omega) rfl ?_ | refine W.subW rfl rfl rfl ?_
                    refine W.remI rfl rfl ⟨by omega, by omega⟩ rfl ?_
                    rw [← hmd]
                    first | refine W.subI rfl rfl (by omega) rfl ?_ | refine W.subW rfl rfl rfl ?_
                    rw [← hm]
                    refine W.call Try.call23 rfl (hL81.disk.Cut (m : Int)) rfl ?_
                    rintro v96 w96 ⟨rfl, hD96, hC96⟩
                    rw [hDe.2] at hD96
                    refine W.nil ?_
                    refine At.thenCode ?_
                    refine C.seq ?_
                    refine C.region ?_
                    refine W.move rfl rfl ?_
                    refine W.call Try.call10 rfl (hD96.Open (by show ((recsB (ps' ++ [p])).take m).length ≤ _; rw [List.length_take]; omega)) rfl ?_
                    rintro v98 w98 ⟨g2, rfl, hL98, hC98⟩
                    rw [hop2] at hL98
                    refine W.assign rfl rfl ?_
                    refine W.nil ?_
                    refine At.thenCode ?_
                    refine C.seq ?_
                    refine C.seq ?_
                    refine C.region ?_
                    refine W.move rfl rfl ?_
                    refine W.eqlPtr rfl rfl rfl rfl ?_
                    refine W.eqv (v' := .bool false) (rfl) ?_
                    refine W.move rfl rfl ?_
                    refine W.wants rfl rfl rfl rfl ?_
                    refine W.move rfl rfl ?_
                    refine W.wants rfl rfl rfl rfl ?_
                    refine W.call Try.call17 rfl hL98.Len rfl ?_
                    rintro v103 w103 ⟨rfl, rfl⟩
                    rw [hs2, show (nB (i - 1)).length = i - 1 from nB_length _]
                    refine W.wants rfl rfl rfl rfl ?_
                    refine W.move rfl rfl ?_
                    refine W.wants rfl rfl rfl rfl ?_
                    first | refine W.subI rfl rfl (by omega) rfl ?_ | refine W.subW rfl rfl rfl ?_
                    refine W.wants rfl rfl rfl rfl ?_
                    refine W.neqI rfl rfl rfl ?_
                    refine W.eqv (bF (by omega)) ?_
                    refine W.pickF rfl rfl rfl ?_
                    refine W.move rfl rfl ?_
                    refine W.wants rfl rfl rfl rfl ?_
                    refine W.move rfl rfl ?_
                    refine W.wants rfl rfl rfl rfl ?_
                    refine W.move rfl rfl ?_
                    refine W.wants rfl rfl rfl rfl ?_
                    first | refine W.subI rfl rfl (by omega) rfl ?_ | refine W.subW rfl rfl rfl ?_
                    refine W.wants rfl rfl rfl rfl ?_
                    refine W.call Try.call16 rfl (hL98.Has (r := 3) (c := (i : Int) - 1) (by constructor <;> decide) (by constructor <;> omega)) rfl ?_
                    rintro v112 w112 ⟨rfl, rfl⟩
                    rw [hs2, show hasL (nB (i - 1)) 3 ((i : Int) - 1) = false by rw [nB_has]; exact decide_eq_false (by omega)]
                    refine W.eqv (v' := .bool false) (rfl) ?_
                    refine W.pickF rfl rfl rfl ?_
                    refine W.move rfl rfl ?_
                    refine W.wants rfl rfl rfl rfl ?_
                    refine W.move rfl rfl ?_
                    refine W.wants rfl rfl rfl rfl ?_
                    refine W.call Try.call22 rfl hL98.disk.Bytes rfl ?_
                    rintro v116 w116 ⟨⟨a116, c116, rfl, _⟩, hX116⟩
                    have hL116 := hL98.xt hX116
                    have hB116 := hBb.ext hL116.ext
                    have hI116 := RdOk.ext rNums hIb hL116.ext
                    have hLt116 := RdOk.ext (rSl 33 rLet) hLb hL116.ext
                    refine W.wants rfl rfl rfl rfl ?_
                    refine W.lenS rfl Try.underlying51 rfl ?_
                    refine W.wants rfl rfl rfl rfl ?_
                    refine W.move rfl rfl ?_
                    refine W.wants rfl rfl rfl rfl ?_
                    refine W.neqI rfl rfl rfl ?_
                    refine W.eqv (bF (by omega)) ?_
                    refine W.pickF rfl rfl rfl ?_
                    refine W.nil ?_
                    refine At.thenCode ?_
                    refine C.condF rfl ?_
                    refine C.skip ?_
                    refine At.thenCode ?_
                    refine C.seq ?_
                    refine C.region ?_
                    refine W.move rfl rfl ?_
                    refine W.loadA rfl (hB116.cells (o := 0)) Try.underlying33 rfl (by kernel_rfl) rfl ?_
                    rw [List.drop_zero]
                    have hbm2 : BatM (Fr w22 (fun _ => False)) w116 x (.slice aI x.inner.length cI) (.slice ao x.lets.length c) := ⟨RdOk.ext rNums (RdOk.new rNums hIb fun q hq hql => by have := hq.2; omega) hL116.ext, RdOk.ext (rSl 33 rLet) (RdOk.new (rSl 33 rLet) hLb fun q hq hql => by have := hq.2; omega) hL116.ext, ho, hi, hl, hb⟩
                    refine W.call Try.call11 rfl (hL116.Accept (by decide) (ps := []) hbm2 (Els.nil _ _ _ _) (Nat.zero_le _) (by omega) (by omega) (by rw [hs2]; show (nB (i - 1)).length ≤ _; rw [nB_length]; omega)) rfl ?_
                    rintro v123 w123 ⟨rfl, hL123, hC123⟩
                    obtain ⟨e, he⟩ : ∃ e, e = acceptE B2 x [] := ⟨_, rfl⟩
                    rw [← he]
                    have hB123 := hBb.ext hL123.ext
                    have hI123 := RdOk.ext rNums hIb hL123.ext
                    have hLt123 := RdOk.ext (rSl 33 rLet) hLb hL123.ext
                    refine W.assign rfl rfl ?_
                    refine W.nil ?_
                    refine At.thenCode ?_
                    refine C.seq ?_
                    refine C.region ?_
                    refine W.loadA rfl (hB123.cells (o := 0)) Try.underlying33 rfl (by kernel_rfl) rfl ?_
                    rw [List.drop_zero]
                    refine W.call Try.call24 rfl (Cod.RBatch_ok x _ _ _ hI123 hLt123 ho hi hl hb) rfl ?_
                    rintro v126 w126 ⟨ao126, c126, rfl, hN126, hX126⟩
                    have hL126 := hL123.xt hX126
                    refine W.move rfl rfl ?_
                    refine W.extract rfl rfl rfl ?_
                    refine W.extract rfl rfl rfl ?_
                    refine W.assign rfl rfl ?_
                    refine W.assign rfl rfl ?_
                    refine W.nil ?_
                    refine At.thenCode ?_
                    refine C.seq ?_
                    refine C.seq ?_
                    refine C.region ?_
                    refine W.move rfl rfl ?_
                    refine W.neqI rfl rfl rfl ?_
                    refine W.nil ?_
                    refine At.thenCode ?_
                    first | refine C.condD rfl (fun c130 => ?_) (fun c130 => ?_) | refine C.cond rfl (fun c130 => ?_) (fun c130 => ?_)
                    · have hbe : batE x ≠ 0 := by omega
                      have hee : e = batE x := by rw [he, (accept_may (B := B2) (pubs := []) (by rw [may_bat hr1.2 hbe]; exact hbe)).1, may_bat hr1.2 hbe]
                      refine C.seq ?_
                      refine C.region ?_
                      refine W.move rfl rfl ?_
                      refine W.call Try.call14 rfl (Law23.num_ok _ _) rfl ?_
                      rintro v132 w132 ⟨rfl, rfl⟩
                      refine W.move rfl rfl ?_
                      refine W.eqlI rfl rfl rfl ?_
                      refine W.eqv (bT (by omega)) ?_
                      refine W.assign rfl rfl ?_
                      refine W.nil ?_
                      refine At.thenCode ?_
                      refine C.ret ?_
                      refine At.thenRet ?_
                      refine At.ret1 Try.results6 rfl ?_
                      first
                      | exact ⟨rfl, Ext.below (hXb.ext hL136.ext)⟩
                      | exact ⟨rfl, Ext.below (hXb.ext hL126.ext)⟩
                      | exact ⟨rfl, Ext.below hXb⟩
                    · have hbe0 : batE x = 0 := by omega
                      obtain ⟨y1, y2, y3, y4, y5⟩ := hG2.accept (x := x) (pubs := []) (torn_may hs2 hr1.1 hr1.2 (by omega) hbe0) ho (by rw [hin0]; rfl) (by omega) (by omega)
                      have hs3 : (acceptB B2 x []).s.l = nB (i - 1) ++ [x] := by rw [y3, hs2]; rfl
                      have he0 : e = 0 := he.trans y1
                      refine C.skip ?_
                      refine At.thenCode ?_
                      refine C.seq ?_
                      refine C.region ?_
                      refine W.move rfl rfl ?_
                      obtain ⟨F, hSt, hDs⟩ := Live.split hL126
                      refine W.call Try.call10 rfl (hDs.Open (by omega)) rfl ?_
                      rintro v136 w136 ⟨g3, rfl, hL136, hC136⟩
                      rw [y2.open] at hL136
                      have hB136 := hBb.ext hL136.ext
                      refine W.assign rfl rfl ?_
                      refine W.nil ?_
                      refine At.thenCode ?_
                      refine C.seq ?_
                      refine C.region ?_
                      refine W.move rfl rfl ?_
                      refine W.call Try.call14 rfl (Law23.num_ok _ _) rfl ?_
                      rintro v138 w138 ⟨rfl, rfl⟩
                      refine W.eqlI rfl rfl rfl ?_
                      refine W.eqv (bT (by omega)) ?_
                      refine W.move rfl rfl ?_
                      refine W.wants rfl rfl rfl rfl ?_
                      refine W.move rfl rfl ?_
                      refine W.wants rfl rfl rfl rfl ?_
                      refine W.neqPtr rfl rfl rfl rfl ?_
                      refine W.eqv (v' := .bool true) (rfl) ?_
                      refine W.pickT rfl rfl rfl ?_
                      refine W.move rfl rfl ?_
                      refine W.wants rfl rfl rfl rfl ?_
                      refine W.move rfl rfl ?_
                      refine W.wants rfl rfl rfl rfl ?_
                      refine W.call Try.call17 rfl hL136.Len rfl ?_
                      rintro v146 w146 ⟨rfl, rfl⟩
                      refine W.wants rfl rfl rfl rfl ?_
                      refine W.move rfl rfl ?_
                      refine W.wants rfl rfl rfl rfl ?_
                      refine W.eqlI rfl rfl rfl ?_
                      refine W.eqv (bT (by rw [hs3, List.length_append, nB_length, List.length_singleton]; omega)) ?_
                      refine W.pickT rfl rfl rfl ?_
                      refine W.move rfl rfl ?_
                      refine W.wants rfl rfl rfl rfl ?_
                      refine W.move rfl rfl ?_
                      refine W.wants rfl rfl rfl rfl ?_
                      refine W.fieldB (off := 0) (size := 1) (t := 3) (Fld.of (by kernel_rfl)) rfl rfl rfl ?_
                      refine W.wants rfl rfl rfl rfl ?_
                      refine W.loadB (v := .int .i64 x.round) rfl Try.underlying3 rfl hB136 rfl rfl ?_
                      refine W.wants rfl rfl rfl rfl ?_
                      refine W.fieldB (off := 1) (size := 1) (t := 3) (Fld.of (by kernel_rfl)) rfl rfl rfl ?_
                      refine W.wants rfl rfl rfl rfl ?_
                      refine W.loadB (v := .int .i64 x.chain) rfl Try.underlying3 rfl hB136 rfl rfl ?_
                      refine W.wants rfl rfl rfl rfl ?_
                      refine W.call Try.call16 rfl (hL136.Has (r := x.round) (c := x.chain) hir hic) rfl ?_
                      rintro v156 w156 ⟨rfl, rfl⟩
                      rw [hs3, hasL_append, decide_eq_true (show x.round = x.round ∧ x.chain = x.chain from ⟨rfl, rfl⟩), Bool.or_true]
                      refine W.eqv (v' := .bool true) (rfl) ?_
                      refine W.pickT rfl rfl rfl ?_
                      refine W.assign rfl rfl ?_
                      refine W.nil ?_
                      refine At.thenCode ?_
                      refine C.ret ?_
                      refine At.ret1 Try.results6 rfl ?_
                      first
                      | exact ⟨rfl, Ext.below (hXb.ext hL136.ext)⟩
                      | exact ⟨rfl, Ext.below (hXb.ext hL126.ext)⟩
                      | exact ⟨rfl, Ext.below hXb⟩
end Go.Proofs.Ythiijdbiikljpaa.Law23
