import Derived.Test.YthiijdbiikljpaaLaw23c
import Derived.Test.YthiijdbiikljpaaDisk3
import Derived.Test.YthiijdbiikljpaaLaw23b
import Derived.Test.YthiijdbiikljpaaBigB
/- Chapter 23: a store on a disk with faults, in plain Lean; faults and crashes of a disk as a law meets them. -/
namespace Go.Proofs.Ythiijdbiikljpaa.Mbx
open Go Go.RowKit Go.Proofs.Ythiijdbiikljpaa.KW Go.Proofs.Ythiijdbiikljpaa.Disk
set_option linter.unusedVariables false
set_option linter.unusedSimpArgs false
set_option maxRecDepth 100000
section
variable {w0 w w' : World} {Y : Nat → Prop} {g dg : Nat} {rv : Int} {B : Box} {D : Dsk}
theorem LiveD.grown {D' : Dsk} {Fd : Nat → Prop} (h : LiveD w0 w Y dg rv D) (h2 : ∀ k, Fd k → Fr w0 Y k) (hD : Dk w' (Grown Fd w w') dg rv D') (hC : Chg Fd w w') : LiveD w0 w' Y dg rv D' ∧ Chg (Fr w0 Y) w w' := by
  have hs := h.ext.size
  have hc : Chg (Fr w0 Y) w w' := hC.mono h2
  refine ⟨⟨⟨_, hD, fun k hk => ?_⟩, h.ext.news hc fun k hk => .inr hk.2, fun k hk => Nat.lt_of_lt_of_le (h.y k hk) hc.size⟩, hc⟩
  rcases hk with hk | hk
  · exact h2 k hk
  · exact ⟨fun hy => by have := h.y k hy; omega, by omega⟩
theorem LiveD.Fail (h : LiveD w0 w Y dg rv D) (lo : Option Addr) (lc : Nat) (l : List Int) (hl : Zs w lo lc l) (hll : l.length ≤ 1000000000) :
    Ct Try.prog 25 #[.pointer (some ⟨dg, 0, none⟩), .slice lo l.length lc] w (fun v w' => LiveD w0 w' Y dg rv (setFails D l) ∧ Chg (Fr w0 Y) w w') := by
  obtain ⟨Fd, h1, h2⟩ := h.out
  refine (Disk.Fail_ok Fd dg rv D lo lc l w h1 hl hll).mono ?_
  rintro v w' ⟨hD, hC⟩
  exact h.grown h2 hD hC
theorem Live.Fail (h : Live w0 w Y g dg rv B) (lo : Option Addr) (lc : Nat) (l : List Int) (hl : Zs w lo lc l) (hll : l.length ≤ 1000000000) :
    Ct Try.prog 25 #[.pointer (some ⟨dg, 0, none⟩), .slice lo l.length lc] w (fun v w' => Live w0 w' Y g dg rv ⟨setFails B.D l, B.s, B.owed⟩ ∧ Chg (Fr w0 Y) w w') := by
  obtain ⟨F, Fd, h1, h2, h3, h4, h5⟩ := h.out
  refine (Disk.Fail_ok Fd dg rv B.D lo lc l w h2 hl hll).mono ?_
  rintro v w' ⟨hD, hC⟩
  have hs := h.ext.size
  have hc : Chg (Fr w0 Y) w w' := hC.mono h5
  refine ⟨⟨⟨F, _, h1.chg hC h3, hD, fun k hk hg => ?_, h4, fun k hk => ?_⟩, h.ext.news hc fun k hk => .inr hk.2, fun k hk => Nat.lt_of_lt_of_le (h.y k hk) hc.size⟩, hc⟩
  · rcases hg with hg | hg
    · exact h3 k hk hg
    · have := h1.lt k hk; omega
  · rcases hk with hk | hk
    · exact h5 k hk
    · exact ⟨fun hy => by have := h.y k hy; omega, by omega⟩
theorem LiveD.Crash (h : LiveD w0 w Y dg rv D) (keep : Int) :
    Ct Try.prog 26 #[.pointer (some ⟨dg, 0, none⟩), .int .i64 keep] w (fun v w' => LiveD w0 w' Y dg rv (crashD D keep) ∧ Chg (Fr w0 Y) w w') := by
  obtain ⟨Fd, h1, h2⟩ := h.out
  refine (Disk.Crash_ok Fd dg rv D keep w h1).mono ?_
  rintro v w' ⟨hD, hC⟩
  exact h.grown h2 hD hC
end
end Go.Proofs.Ythiijdbiikljpaa.Mbx
namespace Go.Proofs.Ythiijdbiikljpaa.Law23
open Go Go.RowKit Go.Proofs.Ythiijdbiikljpaa.KW Go.Proofs.Ythiijdbiikljpaa.Words Go.Proofs.Ythiijdbiikljpaa.Sha Go.Proofs.Ythiijdbiikljpaa.RSha Go.Proofs.Ythiijdbiikljpaa.Grp Go.Proofs.Ythiijdbiikljpaa.Cod Go.Proofs.Ythiijdbiikljpaa.Disk Go.Proofs.Ythiijdbiikljpaa.Mbx
set_option linter.unusedVariables false
set_option linter.unusedSimpArgs false
set_option maxRecDepth 100000
/-- A store whose disk may fail: records that stand, and at most one record behind them that was refused and is not yet cut off. -/
structure KpI (kl : List BatD) (i : Nat) (B : Box) (ps : List (List UInt8)) (res : List UInt8) : Prop where
  bytes : B.D.bs = recsB ps ++ res
  syn : B.D.syn = (recsB ps).length
  small : ∀ p ∈ ps, p.length < 4294967296
  rep : replay ⟨[], 0⟩ ps = some B.s
  bag : B.s = ⟨kl, 0⟩
  non : B.owed = none → res = []
  som : ∀ n, B.owed = some n → n = (recsB ps).length
  res : res = [] ∨ ∃ x p, res = recB p ∧ p.length < 4294967296 ∧ againS B.s p = some (takeS B.s x) ∧ kl.length + 1 ≤ i ∧ x.lets.length ≤ 1000
  cnt : kl.length ≤ i
  lim : ∀ x ∈ kl, x.lets.length ≤ 1000
variable {kl : List BatD} {i : Nat} {B : Box} {ps : List (List UInt8)} {res : List UInt8}
theorem KpI.more (h : KpI kl i B ps res) : KpI kl (i + 1) B ps res :=
  ⟨h.bytes, h.syn, h.small, h.rep, h.bag, h.non, h.som, h.res.imp id fun ⟨x, p, h1, h2, h3, h4, h5⟩ => ⟨x, p, h1, h2, h3, by omega, h5⟩, by have := h.cnt; omega, h.lim⟩
theorem KpI.settle (h : KpI kl i B ps res) : (settleE B = 0 → KpI kl i (settleB B) ps [] ∧ (settleB B).owed = none) ∧ (settleE B ≠ 0 → KpI kl i (settleB B) ps res) := by
  obtain ⟨⟨room, bs, syn, fails⟩, s, owed⟩ := B
  obtain ⟨h1, h2, h3, h4, h5, h6, h7, h8, h9, h10⟩ := h
  simp only at h1 h2 h4 h5 h6 h7 h8
  cases owed with
  | none =>
    have hr := h6 rfl
    subst hr
    exact ⟨fun _ => ⟨⟨h1, h2, h3, h4, h5, fun _ => rfl, h7, .inl rfl, h9, h10⟩, rfl⟩, fun hc => absurd rfl hc⟩
  | some n =>
    have hn := h7 n rfl
    subst hn
    have hcb : ¬ CutBad (⟨room, bs, syn, fails⟩ : Dsk) ((recsB ps).length : Nat) := by
      unfold CutBad; simp only [h1, List.length_append]; omega
    have hse : settleE ⟨⟨room, bs, syn, fails⟩, s, some (recsB ps).length⟩ = cutE (⟨room, bs, syn, fails⟩ : Dsk) ((recsB ps).length : Nat) := rfl
    have hsb : settleB ⟨⟨room, bs, syn, fails⟩, s, some (recsB ps).length⟩ = ⟨cutD (⟨room, bs, syn, fails⟩ : Dsk) ((recsB ps).length : Nat), s, if cutE (⟨room, bs, syn, fails⟩ : Dsk) ((recsB ps).length : Nat) = 0 then none else some (recsB ps).length⟩ := by
      first
      | rfl
      | (unfold settleB; simp only; split <;> simp_all)
    rw [hse, hsb]
    by_cases hf : failB (⟨room, bs, syn, fails⟩ : Dsk) = true
    · have e1 : cutE (⟨room, bs, syn, fails⟩ : Dsk) ((recsB ps).length : Nat) = 7 := by unfold cutE; rw [if_pos hf]
      have e2 : cutD (⟨room, bs, syn, fails⟩ : Dsk) ((recsB ps).length : Nat) = ⟨room, bs, syn, fails.tail⟩ := by unfold cutD; rw [if_pos (.inl hf), if_pos (.inl hf)]
      rw [e1, e2]
      exact ⟨fun hc => absurd hc (by decide), fun _ => ⟨h1, h2, h3, h4, h5, fun hc => by simp at hc, fun m hm => by simp at hm; exact hm.symm, h8, h9, h10⟩⟩
    · have hor : ¬ (failB (⟨room, bs, syn, fails⟩ : Dsk) = true ∨ CutBad (⟨room, bs, syn, fails⟩ : Dsk) ((recsB ps).length : Nat)) := by rintro (c | c); exact hf c; exact hcb c
      have e1 : cutE (⟨room, bs, syn, fails⟩ : Dsk) ((recsB ps).length : Nat) = 0 := by unfold cutE; rw [if_neg hf, if_neg hcb]
      have e2 : cutD (⟨room, bs, syn, fails⟩ : Dsk) ((recsB ps).length : Nat) = ⟨room, recsB ps, (recsB ps).length, fails.tail⟩ := by
        unfold cutD
        rw [if_neg hor, if_neg hor, Int.toNat_natCast]
        show (⟨room, bs.take _, _, _⟩ : Dsk) = _
        rw [h1, List.take_append_of_le_length (Nat.le_refl _), List.take_of_length_le (Nat.le_refl _)]
      rw [e1, e2]
      exact ⟨fun _ => ⟨⟨by simp, rfl, h3, h4, h5, fun _ => rfl, fun m hm => by simp at hm, .inl rfl, h9, h10⟩, rfl⟩, fun hc => absurd rfl hc⟩
theorem KpI.put (h : KpI kl i B ps []) (ho : B.owed = none) {p : List UInt8} {x : BatD} (hp : p.length < 4294967296) (ha : againS B.s p = some (takeS B.s x)) (hi : kl.length + 1 ≤ i) (hxl : x.lets.length ≤ 1000) :
    (putE B.D p = 0 → KpI (kl ++ [x]) i ⟨(putB B p).D, takeS B.s x, (putB B p).owed⟩ (ps ++ [p]) []) ∧ (putE B.D p ≠ 0 → ∃ res', KpI kl i (putB B p) ps res') := by
  obtain ⟨⟨room, bs, syn, fails⟩, s, owed⟩ := B
  obtain ⟨h1, h2, h3, h4, h5, h6, h7, h8, h9, h10⟩ := h
  simp only [List.append_nil] at h1 h2 h4 h5 h6 h7 h8 ho ha
  subst ho
  have hput : putB ⟨⟨room, bs, syn, fails⟩, s, none⟩ p = if putE (⟨room, bs, syn, fails⟩ : Dsk) p = 0 then ⟨putD (⟨room, bs, syn, fails⟩ : Dsk) p, s, none⟩ else settleB ⟨putD (⟨room, bs, syn, fails⟩ : Dsk) p, s, some bs.length⟩ := rfl
  rw [hput]
  have hrl : (recsB (ps ++ [p])) = recsB ps ++ recB p := recsB_snoc ps p
  by_cases hae : appE (⟨room, bs, syn, fails⟩ : Dsk) (recB p) = 0
  · have hnf : ¬ (failB (⟨room, bs, syn, fails⟩ : Dsk) = true ∨ Full (⟨room, bs, syn, fails⟩ : Dsk) (recB p).length) := by
      intro hc
      unfold appE at hae
      rw [if_pos hc] at hae
      cases hae
    have had : appD (⟨room, bs, syn, fails⟩ : Dsk) (recB p) = ⟨room, bs ++ recB p, syn, fails.tail⟩ := by unfold appD; rw [if_neg hnf]
    have hpe : putE (⟨room, bs, syn, fails⟩ : Dsk) p = synE (⟨room, bs ++ recB p, syn, fails.tail⟩ : Dsk) := by unfold putE; rw [if_pos hae, had]
    have hpd : putD (⟨room, bs, syn, fails⟩ : Dsk) p = synD (⟨room, bs ++ recB p, syn, fails.tail⟩ : Dsk) := by unfold putD; rw [if_pos hae, had]
    rw [hpe, hpd]
    by_cases hf : failB (⟨room, bs ++ recB p, syn, fails.tail⟩ : Dsk) = true
    · have e1 : synE (⟨room, bs ++ recB p, syn, fails.tail⟩ : Dsk) = 7 := by unfold synE; rw [if_pos hf]
      have e2 : synD (⟨room, bs ++ recB p, syn, fails.tail⟩ : Dsk) = ⟨room, bs ++ recB p, syn, fails.tail.tail⟩ := by unfold synD; rw [if_pos hf]
      rw [e1, e2, if_neg (by decide)]
      refine ⟨fun hc => absurd hc (by decide), fun _ => ?_⟩
      have hk : KpI kl i ⟨⟨room, bs ++ recB p, syn, fails.tail.tail⟩, s, some bs.length⟩ ps (recB p) := ⟨by show bs ++ recB p = _; rw [h1], h2, h3, h4, h5, fun hc => (by cases hc), fun n hn => (by obtain rfl := Option.some.inj hn; rw [h1]), .inr ⟨x, p, rfl, hp, ha, hi, hxl⟩, h9, h10⟩
      obtain ⟨k1, k2⟩ := hk.settle
      by_cases hz : settleE ⟨⟨room, bs ++ recB p, syn, fails.tail.tail⟩, s, some bs.length⟩ = 0
      · exact ⟨_, (k1 hz).1⟩
      · exact ⟨_, k2 hz⟩
    · have e1 : synE (⟨room, bs ++ recB p, syn, fails.tail⟩ : Dsk) = 0 := by unfold synE; rw [if_neg hf]
      have e2 : synD (⟨room, bs ++ recB p, syn, fails.tail⟩ : Dsk) = ⟨room, bs ++ recB p, (bs ++ recB p).length, fails.tail.tail⟩ := by unfold synD; rw [if_neg hf]
      rw [e1, e2, if_pos rfl]
      refine ⟨fun _ => ⟨?_, ?_, fun q hq => ?_, replay_snoc ps _ _ _ _ h4 ha, ?_, fun _ => rfl, fun n hn => (by cases hn), .inl rfl, by simp; omega, fun y hy => ?_⟩, fun hc => absurd rfl hc⟩
      · show bs ++ recB p = recsB (ps ++ [p]) ++ []
        rw [hrl, h1, List.append_nil]
      · show (bs ++ recB p).length = _
        rw [hrl, h1]
      · rcases List.mem_append.1 hq with hq | hq
        · exact h3 q hq
        · obtain rfl := List.mem_singleton.1 hq; exact hp
      · show takeS s x = _
        rw [h5]; rfl
      · rcases List.mem_append.1 hy with hy | hy
        · exact h10 y hy
        · obtain rfl := List.mem_singleton.1 hy; exact hxl
  · have hfu : failB (⟨room, bs, syn, fails⟩ : Dsk) = true ∨ Full (⟨room, bs, syn, fails⟩ : Dsk) (recB p).length := by
      by_cases hc : failB (⟨room, bs, syn, fails⟩ : Dsk) = true ∨ Full (⟨room, bs, syn, fails⟩ : Dsk) (recB p).length
      · exact hc
      · exact absurd (by unfold appE; rw [if_neg hc]) hae
    have had : appD (⟨room, bs, syn, fails⟩ : Dsk) (recB p) = ⟨room, bs, syn, fails.tail⟩ := by unfold appD; rw [if_pos hfu]
    have hpe : putE (⟨room, bs, syn, fails⟩ : Dsk) p ≠ 0 := by unfold putE; rw [if_neg hae]; exact hae
    have hpd : putD (⟨room, bs, syn, fails⟩ : Dsk) p = ⟨room, bs, syn, fails.tail⟩ := by unfold putD; rw [if_neg hae, had]
    rw [hpd, if_neg hpe]
    refine ⟨fun hc => absurd hc hpe, fun _ => ?_⟩
    have hk : KpI kl i ⟨⟨room, bs, syn, fails.tail⟩, s, some bs.length⟩ ps [] := ⟨by show bs = _; rw [h1, List.append_nil], h2, h3, h4, h5, fun hc => (by cases hc), fun n hn => (by obtain rfl := Option.some.inj hn; rw [h1]), .inl rfl, h9, h10⟩
    obtain ⟨k1, k2⟩ := hk.settle
    by_cases hz : settleE ⟨⟨room, bs, syn, fails.tail⟩, s, some bs.length⟩ = 0
    · exact ⟨_, (k1 hz).1⟩
    · exact ⟨_, k2 hz⟩
/-- One batch more: taken, or refused. -/
theorem KpI.step (h : KpI kl i B ps res) {x : BatD} (ho : BatOk x) (hl : (batB x).length ≤ 900000) :
    (acceptE B x (x.inner.map (timesV 37)) = 0 → ∃ ps' res', KpI (kl ++ [x]) (i + 1) (acceptB B x (x.inner.map (timesV 37))) ps' res') ∧ (acceptE B x (x.inner.map (timesV 37)) ≠ 0 → ∃ ps' res', KpI kl (i + 1) (acceptB B x (x.inner.map (timesV 37))) ps' res') := by
  have hcnt := h.cnt
  have hpr : provedB x.inner (x.inner.map (timesV 37)) = true := decide_eq_true rfl
  by_cases hm : mayE B.s x = 0
  · have e1 : acceptE B x (x.inner.map (timesV 37)) = keepE B (1 :: batB x) := by unfold acceptE; rw [if_neg (by omega), if_neg (by rw [hpr]; decide)]
    have e2 : acceptB B x (x.inner.map (timesV 37)) = if keepE B (1 :: batB x) = 0 then ⟨(keepB B (1 :: batB x)).D, takeS B.s x, (keepB B (1 :: batB x)).owed⟩ else keepB B (1 :: batB x) := by unfold acceptB; rw [if_neg (by rintro (c | c); exact c hm; rw [hpr] at c; cases c)]
    rw [e1, e2]
    have hm' := h.more
    obtain ⟨k1, k2⟩ := hm'.settle
    by_cases hs : settleE B = 0
    · obtain ⟨k3, k4⟩ := k1 hs
      have e3 : keepE B (1 :: batB x) = putE (settleB B).D (1 :: batB x) := by unfold keepE; rw [if_pos hs]
      have e4 : keepB B (1 :: batB x) = putB (settleB B) (1 :: batB x) := by unfold keepB; rw [if_pos hs]
      have ha : againS (settleB B).s (1 :: batB x) = some (takeS (settleB B).s x) := by rw [settleB_s]; exact again_accept hm ho
      obtain ⟨p1, p2⟩ := k3.put k4 (show (1 :: batB x).length < 4294967296 by show (batB x).length + 1 < _; omega) ha (by omega) (batE_small (mayE_zero hm).2.1).2.1
      rw [settleB_s] at p1
      rw [e3, e4]
      constructor
      · intro hz; rw [if_pos hz]; exact ⟨_, _, p1 hz⟩
      · intro hz; rw [if_neg hz]; obtain ⟨r', h'⟩ := p2 hz; exact ⟨_, _, h'⟩
    · have e3 : keepE B (1 :: batB x) = settleE B := by unfold keepE; rw [if_neg hs]
      have e4 : keepB B (1 :: batB x) = settleB B := by unfold keepB; rw [if_neg hs]
      rw [e3, e4, if_neg hs]
      exact ⟨fun hc => absurd hc hs, fun _ => ⟨_, _, k2 hs⟩⟩
  · obtain ⟨a1, a2⟩ := accept_may (B := B) (x := x) (pubs := x.inner.map (timesV 37)) hm
    rw [a1, a2]
    exact ⟨fun hc => absurd hc hm, fun _ => ⟨_, _, h.more⟩⟩
/-- What is opened after a crash. -/
theorem KpI.crash (h : KpI kl i B ps res) (keep : Int) : ∃ l : List BatD, (openB (crashD (setFails B.D []) keep)).s = ⟨l, 0⟩ ∧ (l = kl ∨ ∃ x, l = kl ++ [x] ∧ kl.length + 1 ≤ i) ∧ ∀ x ∈ l, x.lets.length ≤ 1000 := by
  have hopen : ∀ D : Dsk, (openB D).s = (scanS ⟨[], 0⟩ D.bs).1 := by
    intro D
    unfold openB
    split <;> rfl
  rw [hopen]
  obtain ⟨k, hk⟩ : ∃ k, k = (min (max 0 keep) ((B.D.bs.length - B.D.syn : Nat) : Int)).toNat := ⟨_, rfl⟩
  have hbs : (crashD (setFails B.D []) keep).bs = recsB ps ++ res.take k := by
    show B.D.bs.take (B.D.syn + (min (max 0 keep) ((B.D.bs.length - B.D.syn : Nat) : Int)).toNat) = _
    rw [← hk, h.syn, h.bytes, List.take_append, List.take_of_length_le (by omega), Nat.add_sub_cancel_left]
  rw [hbs, scan_recs ps ⟨[], 0⟩ B.s _ h.small h.rep]
  show ∃ l, (scanS B.s (res.take k)).1 = _ ∧ _
  rcases h.res with hr | ⟨x, p, hr, hp, ha, hi, hxl⟩
  · rw [hr, List.take_nil, scanS_nil]
    exact ⟨kl, h.bag, .inl rfl, h.lim⟩
  · rw [hr]
    by_cases hlt : k < (recB p).length
    · rw [scanS_stop (.inl (rec1_torn hp hlt))]
      exact ⟨kl, h.bag, .inl rfl, h.lim⟩
    · rw [List.take_of_length_le (by omega)]
      have h1 : rec1 (recB p) = some p := by have := rec1_recB hp []; rwa [List.append_nil] at this
      rw [scanS_step h1 ha, List.drop_of_length_le (by rw [recB_length]; exact Nat.le_refl _), scanS_nil]
      refine ⟨kl ++ [x], ?_, .inr ⟨x, rfl, hi⟩, fun y hy => ?_⟩
      · show takeS B.s x = _
        rw [h.bag]; rfl
      · rcases List.mem_append.1 hy with hy | hy
        · exact h.lim y hy
        · obtain rfl := List.mem_singleton.1 hy; exact hxl
theorem fetch_len {l : List BatD} {m : Nat} (h : ∀ x ∈ l, x.lets.length ≤ m) (k : List UInt8) (a c : Int) : (fetchL l k a c).length ≤ l.length * m := by
  unfold fetchL
  rw [List.length_map]
  exact Nat.le_trans (List.length_filter_le _ _) (heldL_len h k)
theorem fetch_mem {l : List BatD} {x : BatD} {p : Let} (hx : x ∈ l) (hp : p ∈ x.lets) : ∃ y ∈ fetchL l p.1 x.round x.round, y.2 = p.2 := by
  refine ⟨(p.1, p.2), ?_, rfl⟩
  unfold fetchL
  refine List.mem_map.2 ⟨(x.round, p.2), List.mem_filter.2 ⟨?_, by simp⟩, rfl⟩
  unfold heldL
  refine List.mem_flatMap.2 ⟨x, hx, ?_⟩
  unfold heldX
  rw [List.take_length]
  exact List.mem_map.2 ⟨p, List.mem_filter.2 ⟨hp, by simp⟩, rfl⟩
theorem hasL_mem {l : List BatD} {x : BatD} (hx : x ∈ l) : hasL l x.round x.chain = true := List.any_eq_true.2 ⟨x, hx, by simp⟩
end Go.Proofs.Ythiijdbiikljpaa.Law23

/- Chapter 23: the walk of its law on what is kept. -/
namespace Go.Proofs.Ythiijdbiikljpaa.Law23
open Go Go.RowKit Go.Proofs.Ythiijdbiikljpaa.KW Go.Proofs.Ythiijdbiikljpaa.Words Go.Proofs.Ythiijdbiikljpaa.Sha Go.Proofs.Ythiijdbiikljpaa.RSha Go.Proofs.Ythiijdbiikljpaa.Grp Go.Proofs.Ythiijdbiikljpaa.Cod Go.Proofs.Ythiijdbiikljpaa.Disk Go.Proofs.Ythiijdbiikljpaa.Mbx
set_option linter.unusedVariables false
set_option linter.unusedSimpArgs false
set_option maxRecDepth 100000
theorem EBatX : Elem Try.prog 33 4 64 (.agg #[.int .i64 0, .int .i64 0, .slice none 0 0, .slice none 0 0]) := Elem.of (by kernel_rfl) rfl rfl
theorem crash_len (D : Dsk) (keep : Int) : (crashD D keep).bs.length ≤ D.bs.length := by
  show (D.bs.take _).length ≤ _
  rw [List.length_take]; omega
theorem MailboxKeeps_walk (ao : Option Addr) (c : Nat) (bl : List BatD) (ac : Option Addr) (cc : Nat) (fs : List Int) (keep room : Int) (w : World) (hE : Els (fun _ => False) w 4 RBat ao c bl) (hl : bl.length ≤ 9223372036854775807) (hb : ∀ x ∈ bl, x.inner.length ≤ 9223372036854775807 ∧ x.lets.length ≤ 9223372036854775807 ∧ ∀ p ∈ x.lets, p.2.length ≤ 9223372036854775807) (hC : Sl w ac fs.length cc 1 (fs.map (.int .i64))) (hfl : fs.length ≤ 9223372036854775807) (hfb : ∀ x ∈ fs, -9223372036854775808 ≤ x ∧ x ≤ 9223372036854775807) (hke : -9223372036854775808 ≤ keep ∧ keep ≤ 9223372036854775807) (hro : -9223372036854775808 ≤ room ∧ room ≤ 9223372036854775807) :
    Ct Try.prog 7 #[.slice ao bl.length c, .slice ac fs.length cc, .int .i64 keep, .int .i64 room] w (LawOk w) := by
  refine Ct.enter [(0, .slice ao bl.length c), (1, .slice ac fs.length cc), (2, .int .i64 keep), (3, .int .i64 room)] Try.func7 rfl rfl rfl rfl ?_
  obtain ⟨hop0, hg0⟩ := Good.new room.toNat
  rw [show (⟨⟨room.toNat, [], 0, []⟩, ⟨[], 0⟩, none⟩ : Box) = B0 room.toNat from rfl] at hop0 hg0
  have hrv : (0 : Int) ≤ max 0 room := Int.le_max_left _ _
  refine C.seq ?_
  refine C.region ?_
  refine W.assign rfl rfl ?_
  refine W.nil ?_
  refine At.thenCode ?_
  refine C.seq ?_
  refine C.region ?_
  refine W.call Try.call8 rfl (Law23.alive_ok _) rfl ?_
  rintro v24 w24 ⟨rfl, hX24⟩
  have hE24 : Els (fun q => w24.heap.size ≤ q) w24 4 RBat ao c bl := Els.new rBat (Els.ext rBat hE hX24) fun q hq hlt => by omega
  refine W.assign rfl rfl ?_
  refine W.nil ?_
  refine At.thenCode ?_
  refine C.seq ?_
  refine C.seq ?_
  refine C.region ?_
  refine W.move rfl rfl ?_
  first | refine W.notD rfl rfl ?_ | refine W.notB rfl rfl ?_
  refine W.eqv (v' := .bool false) (rfl) ?_
  refine W.move rfl rfl ?_
  refine W.wants rfl rfl rfl rfl ?_
  refine W.move rfl rfl ?_
  refine W.wants rfl rfl rfl rfl ?_
  refine W.lenS rfl Try.underlying62 rfl ?_
  refine W.wants rfl rfl rfl rfl ?_
  refine W.gtrI rfl rfl rfl ?_
  refine W.pickF rfl rfl rfl ?_
  refine W.move rfl rfl ?_
  first | refine W.splitD (fun g32 => ?_) (fun g32 => ?_) | refine W.splitB (fun g32 => ?_) (fun g32 => ?_)
  · refine W.skips rfl rfl rfl rfl rfl rfl ?_
    refine W.skips rfl rfl rfl rfl rfl rfl ?_
    refine W.skips rfl rfl rfl rfl rfl rfl ?_
    refine W.pickT rfl rfl rfl ?_
    refine W.move rfl rfl ?_
    refine W.skips rfl rfl rfl rfl rfl rfl ?_
    refine W.skips rfl rfl rfl rfl rfl rfl ?_
    refine W.pickT rfl rfl rfl ?_
    refine W.nil ?_
    refine At.thenCode ?_
    refine C.condT rfl ?_
    refine C.seq ?_
    refine C.region ?_
    refine W.move rfl rfl ?_
    refine W.assign rfl rfl ?_
    refine W.nil ?_
    refine At.thenCode ?_
    refine C.ret ?_
    refine At.thenRet ?_
    refine At.ret1 Try.results7 rfl ?_
    first
    | exact ⟨rfl, Ext.below (hX24.ext (hL121.ext.ext hX3))⟩
    | exact ⟨rfl, Ext.below (hX24.ext (hL1.ext.ext hX59))⟩
    | exact ⟨rfl, Ext.below hX24⟩
  · refine W.wants rfl rfl rfl rfl ?_
    refine W.move rfl rfl ?_
    refine W.wants rfl rfl rfl rfl ?_
    refine W.lenS rfl Try.underlying22 rfl ?_
    refine W.wants rfl rfl rfl rfl ?_
    refine W.gtrI rfl rfl rfl ?_
    refine W.pickF rfl rfl rfl ?_
    refine W.move rfl rfl ?_
    first | refine W.splitD (fun g37 => ?_) (fun g37 => ?_) | refine W.splitB (fun g37 => ?_) (fun g37 => ?_)
    · refine W.skips rfl rfl rfl rfl rfl rfl ?_
      refine W.skips rfl rfl rfl rfl rfl rfl ?_
      refine W.pickT rfl rfl rfl ?_
      refine W.nil ?_
      refine At.thenCode ?_
      refine C.condT rfl ?_
      refine C.seq ?_
      refine C.region ?_
      refine W.move rfl rfl ?_
      refine W.assign rfl rfl ?_
      refine W.nil ?_
      refine At.thenCode ?_
      refine C.ret ?_
      refine At.thenRet ?_
      refine At.ret1 Try.results7 rfl ?_
      first
      | exact ⟨rfl, Ext.below (hX24.ext (hL121.ext.ext hX3))⟩
      | exact ⟨rfl, Ext.below (hX24.ext (hL1.ext.ext hX59))⟩
      | exact ⟨rfl, Ext.below hX24⟩
    · refine W.wants rfl rfl rfl rfl ?_
      refine W.move rfl rfl ?_
      refine W.wants rfl rfl rfl rfl ?_
      refine W.lssI rfl rfl rfl ?_
      refine W.pickF rfl rfl rfl ?_
      refine W.nil ?_
      refine At.thenCode ?_
      first | refine C.condD rfl (fun c40 => ?_) (fun c40 => ?_) | refine C.cond rfl (fun c40 => ?_) (fun c40 => ?_)
      · refine C.seq ?_
        refine C.region ?_
        refine W.move rfl rfl ?_
        refine W.assign rfl rfl ?_
        refine W.nil ?_
        refine At.thenCode ?_
        refine C.ret ?_
        refine At.thenRet ?_
        refine At.ret1 Try.results7 rfl ?_
        first
        | exact ⟨rfl, Ext.below (hX24.ext (hL121.ext.ext hX3))⟩
        | exact ⟨rfl, Ext.below (hX24.ext (hL1.ext.ext hX59))⟩
        | exact ⟨rfl, Ext.below hX24⟩
      · have hn : bl.length ≤ 12 := by omega
        have hfn : fs.length ≤ 60 := by omega
        refine C.skip ?_
        refine At.thenCode ?_
        refine C.seq ?_
        refine C.region ?_
        refine W.move rfl rfl ?_
        refine W.call Try.call9 rfl (LiveD.New (w0 := w24) (Y := fun _ => False) room (Ext.refl _) (fun _ h => h.elim) hro) rfl ?_
        rintro v43 w43 ⟨dg, rfl, hD43, hX43⟩
        refine W.assign rfl rfl ?_
        refine W.nil ?_
        refine At.thenCode ?_
        refine C.seq ?_
        refine C.region ?_
        refine W.move rfl rfl ?_
        refine W.call Try.call10 rfl (hD43.Open (Nat.zero_le _)) rfl ?_
        rintro v45 w45 ⟨g, rfl, hL45, hC45⟩
        have hL45 : Live w24 w45 (fun _ => False) g dg (max 0 room) (B0 room.toNat) := by have := hL45; rwa [hop0] at this
        refine W.assign rfl rfl ?_
        refine W.nil ?_
        refine At.thenCode ?_
        refine C.seq ?_
        refine C.region ?_
        refine W.move rfl rfl ?_
        refine W.move rfl rfl ?_
        refine W.call Try.call25 rfl (hL45.Fail ac cc fs (hC.ext (hX24.ext hL45.ext)) (by omega)) rfl ?_
        rintro v48 w48 ⟨hL48, hC48⟩
        refine W.nil ?_
        refine At.thenCode ?_
        refine C.seq ?_
        refine C.region ?_
        refine W.assign rfl rfl ?_
        refine W.nil ?_
        refine At.thenCode ?_
        refine C.seq ?_
        refine C.seq ?_
        refine C.region ?_
        refine W.assign rfl rfl ?_
        refine W.nil ?_
        refine At.thenCode ?_
        refine C.block ?_
        refine C.loop (X := Nat × Value × ((List BatD)) × Box × ((List (List UInt8))) × ((List UInt8)) × ((Nat → Prop))) (fun x_ => [(0, .slice ao bl.length c), (2, .int .i64 keep), (10, .pointer (some ⟨dg, 0, none⟩)), (11, .pointer (some ⟨g, 0, none⟩)), (12, x_.2.1), (13, .int .i64 (x_.1 : Int))]) (fun x_ w1 => x_.1 ≤ bl.length ∧ Live w24 w1 x_.2.2.2.2.2.2 g dg (max 0 room) x_.2.2.2.1 ∧ KpI x_.2.2.1 x_.1 x_.2.2.2.1 x_.2.2.2.2.1 x_.2.2.2.2.2.1 ∧ x_.2.2.2.1.D.bs.length ≤ x_.1 * 20000 ∧ OwE (fun q_ => w24.heap.size ≤ q_) w1 w24.heap.size 33 4 RBat x_.2.1 x_.2.2.1 ∧ (∀ q_, x_.2.1.ownBlock = some q_ → x_.2.2.2.2.2.2 q_) ∧ (∀ z_ ∈ x_.2.2.1, z_ ∈ bl)) (fun x_ => bl.length - x_.1) (0, Value.slice none 0 0, [], (⟨setFails (B0 room.toNat).D fs, (B0 room.toNat).s, (B0 room.toNat).owed⟩ : Box), [], [], fun _ => False) (Sub.cons (rfl) (Sub.cons (rfl) (Sub.cons (rfl) (Sub.cons (rfl) (Sub.cons (rfl) (Sub.cons (rfl) (Sub.nil))))))) ?start1 ?_
        case start1 =>
          show (0) ≤ bl.length ∧ Live w24 _ (fun _ => False) g dg (max 0 room) ((⟨setFails (B0 room.toNat).D fs, (B0 room.toNat).s, (B0 room.toNat).owed⟩ : Box)) ∧ KpI ([]) (0) ((⟨setFails (B0 room.toNat).D fs, (B0 room.toNat).s, (B0 room.toNat).owed⟩ : Box)) ([]) ([]) ∧ ((⟨setFails (B0 room.toNat).D fs, (B0 room.toNat).s, (B0 room.toNat).owed⟩ : Box)).D.bs.length ≤ (0) * 20000 ∧ OwE (fun q_ => w24.heap.size ≤ q_) _ w24.heap.size 33 4 RBat (Value.slice none 0 0) ([]) ∧ (∀ q_, (Value.slice none 0 0).ownBlock = some q_ → (fun _ => False) q_) ∧ (∀ z_ ∈ ([]), z_ ∈ bl)
          exact ⟨by omega, hL48, ⟨rfl, rfl, fun p hp => by simp at hp, rfl, rfl, fun _ => rfl, fun n h => (by cases h), .inl rfl, Nat.le_refl _, fun y hy => by simp at hy⟩, Nat.zero_le _, OwE.nil _ _ _ _ _ _, fun q hq => (by cases hq), fun x hx => by simp at hx⟩
        rintro ⟨i, v, kl, B, ps, res, Y⟩ w1 hI_
        replace hI_ : i ≤ bl.length ∧ Live w24 w1 Y g dg (max 0 room) B ∧ KpI kl i B ps res ∧ B.D.bs.length ≤ i * 20000 ∧ OwE (fun q_ => w24.heap.size ≤ q_) w1 w24.heap.size 33 4 RBat v kl ∧ (∀ q_, v.ownBlock = some q_ → Y q_) ∧ (∀ z_ ∈ kl, z_ ∈ bl) := hI_
        obtain ⟨hi, hL1, hK1, hlen1, hO1, hvY, hkb⟩ := hI_
        refine C.weaken (l' := [(0, .slice ao bl.length c), (2, .int .i64 keep), (10, .pointer (some ⟨dg, 0, none⟩)), (11, .pointer (some ⟨g, 0, none⟩)), (12, v), (13, .int .i64 (i : Int))]) (Sub.cons (rfl) (Sub.cons (rfl) (Sub.cons (rfl) (Sub.cons (rfl) (Sub.cons (rfl) (Sub.cons (rfl) (Sub.nil))))))) ?_
        refine C.seq ?_
        refine C.seq ?_
        refine C.region ?_
        refine W.move rfl rfl ?_
        refine W.move rfl rfl ?_
        refine W.lenS rfl Try.underlying62 rfl ?_
        refine W.lssI rfl rfl rfl ?_
        refine W.nil ?_
        refine At.thenCode ?_
        first | refine C.condD rfl (fun c52 => ?_) (fun c52 => ?_) | refine C.cond rfl (fun c52 => ?_) (fun c52 => ?_)
        · have hlt : i < bl.length := by omega
          obtain ⟨x, hx⟩ : ∃ x, x = bl[i] := ⟨_, rfl⟩
          have hxm : x ∈ bl := hx ▸ List.getElem_mem hlt
          obtain ⟨hxi, hxl, hxb⟩ := hb x hxm
          have hE1 := Els.ext rBat hE24 hL1.ext
          refine C.skip ?_
          refine At.thenCode ?_
          refine C.seq ?_
          refine C.block ?_
          refine C.seq ?_
          refine C.region ?_
          refine W.move rfl rfl ?_
          refine W.move rfl rfl ?_
          refine W.indexE EBatX Try.underlying62 rfl hE1 rfl hlt rfl ?_
          intro ad57 cs57 hc57 hR57 hl57
          rw [← hx] at hR57
          obtain ⟨vi57, vl57, rfl, hI57, hLt57, hok⟩ := hR57
          refine W.loadA rfl hc57 Try.underlying33 rfl (by kernel_rfl) rfl ?_
          refine W.call Try.call21 rfl (Law11.BigBatch_ok x vi57 vl57 _ (RdOk.new rNums hI57 fun _ h _ => h.elim) (RdOk.new (rSl 33 rLet) hLt57 fun _ h _ => h.elim) hxi hxl) rfl ?_
          rintro v59 w59 ⟨big, rfl, hbig, hX59⟩
          have hE59 := Els.ext rBat hE1 hX59
          refine W.assign rfl rfl ?_
          refine W.nil ?_
          refine At.thenCode ?_
          refine C.seq ?_
          refine C.seq ?_
          refine C.region ?_
          refine W.move rfl rfl ?_
          refine W.move rfl rfl ?_
          first | refine W.splitD (fun g61 => ?_) (fun g61 => ?_) | refine W.splitB (fun g61 => ?_) (fun g61 => ?_)
          · refine W.skips rfl rfl rfl rfl rfl rfl ?_
            refine W.skips rfl rfl rfl rfl rfl rfl ?_
            refine W.skips rfl rfl rfl rfl rfl rfl ?_
            refine W.skips rfl rfl rfl rfl rfl rfl ?_
            refine W.skips rfl rfl rfl rfl rfl rfl ?_
            refine W.skips rfl rfl rfl rfl rfl rfl ?_
            refine W.skips rfl rfl rfl rfl rfl rfl ?_
            refine W.pickT rfl rfl rfl ?_
            refine W.nil ?_
            refine At.thenCode ?_
            refine C.condT rfl ?_
            refine C.seq ?_
            refine C.region ?_
            refine W.assign rfl rfl ?_
            refine W.nil ?_
            refine At.thenCode ?_
            refine C.ret ?_
            refine At.thenRet ?_
            refine At.blockRet ?_
            refine At.thenRet ?_
            refine At.thenRet ?_
            refine At.blockRet ?_
            refine At.thenRet ?_
            refine At.ret1 Try.results7 rfl ?_
            first
            | exact ⟨rfl, Ext.below (hX24.ext (hL121.ext.ext hX3))⟩
            | exact ⟨rfl, Ext.below (hX24.ext (hL1.ext.ext hX59))⟩
            | exact ⟨rfl, Ext.below hX24⟩
          · refine W.wants rfl rfl rfl rfl ?_
            refine W.move rfl rfl ?_
            refine W.wants rfl rfl rfl rfl ?_
            refine W.move rfl rfl ?_
            refine W.wants rfl rfl rfl rfl ?_
            refine W.indexE EBatX Try.underlying62 rfl hE59 rfl hlt rfl ?_
            intro ad64 cs64 hc64 hR64 hl64
            rw [← hx] at hR64
            obtain ⟨vi64, vl64, rfl, hI64, hLt64, _⟩ := hR64
            obtain ⟨aI64, cI64, rfl, _⟩ := RNums.form hI64
            refine W.wants rfl rfl rfl rfl ?_
            refine W.fieldAddr (off := 2) (size := 1) (t := 30) (Fld.of (by kernel_rfl)) rfl rfl rfl ?_
            refine W.wants rfl rfl rfl rfl ?_
            refine W.load rfl Try.underlying30 rfl (hc64 2 _ rfl) rfl ?_
            refine W.wants rfl rfl rfl rfl ?_
            refine W.lenS rfl Try.underlying30 rfl ?_
            refine W.wants rfl rfl rfl rfl ?_
            refine W.gtrI rfl rfl rfl ?_
            refine W.pickF rfl rfl rfl ?_
            refine W.nil ?_
            refine At.thenCode ?_
            first | refine C.condD rfl (fun c69 => ?_) (fun c69 => ?_) | refine C.cond rfl (fun c69 => ?_) (fun c69 => ?_)
            · refine C.seq ?_
              refine C.region ?_
              refine W.assign rfl rfl ?_
              refine W.nil ?_
              refine At.thenCode ?_
              refine C.ret ?_
              refine At.thenRet ?_
              refine At.blockRet ?_
              refine At.thenRet ?_
              refine At.thenRet ?_
              refine At.blockRet ?_
              refine At.thenRet ?_
              refine At.ret1 Try.results7 rfl ?_
              first
              | exact ⟨rfl, Ext.below (hX24.ext (hL121.ext.ext hX3))⟩
              | exact ⟨rfl, Ext.below (hX24.ext (hL1.ext.ext hX59))⟩
              | exact ⟨rfl, Ext.below hX24⟩
            · have hin : x.inner.length ≤ 20 := by omega
              obtain ⟨hs30, hs31, hs300⟩ := hbig g61
              have hbl : (batB x).length ≤ 12000 := by have := batB_len hok (m := 300) hs300; omega
              refine C.skip ?_
              refine At.thenCode ?_
              refine C.seq ?_
              refine C.region ?_
              refine W.assign rfl rfl ?_
              refine W.nil ?_
              refine At.thenCode ?_
              refine C.seq ?_
              refine C.seq ?_
              refine C.region ?_
              refine W.assign rfl rfl ?_
              refine W.nil ?_
              refine At.thenCode ?_
              refine C.block ?_
              refine C.loop (X := Nat × Value) (fun x_ => [(0, .slice ao bl.length c), (2, .int .i64 keep), (10, .pointer (some ⟨dg, 0, none⟩)), (11, .pointer (some ⟨g, 0, none⟩)), (12, v), (13, .int .i64 (i : Int)), (15, x_.2), (16, .int .i64 (x_.1 : Int))]) (fun x_ w2 => x_.1 ≤ x.inner.length ∧ Ext w59 w2 ∧ OwE (fun _ => False) w2 w59.heap.size 47 10 RPub x_.2 ((x.inner.take x_.1).map (timesV 37))) (fun x_ => x.inner.length - x_.1) (0, Value.slice none 0 0) (Sub.cons (rfl) (Sub.cons (rfl) (Sub.cons (rfl) (Sub.cons (rfl) (Sub.cons (rfl) (Sub.cons (rfl) (Sub.cons (rfl) (Sub.cons (rfl) (Sub.nil))))))))) ?start2 ?_
              case start2 =>
                show (0) ≤ x.inner.length ∧ Ext w59 _ ∧ OwE (fun _ => False) _ w59.heap.size 47 10 RPub (Value.slice none 0 0) ((x.inner.take (0)).map (timesV 37))
                exact ⟨by omega, Ext.refl _, OwE.nil _ _ _ _ _ _⟩
              rintro ⟨j, vp⟩ w2 hI_
              replace hI_ : j ≤ x.inner.length ∧ Ext w59 w2 ∧ OwE (fun _ => False) w2 w59.heap.size 47 10 RPub vp ((x.inner.take j).map (timesV 37)) := hI_
              obtain ⟨hj, hX2, hO2⟩ := hI_
              refine C.weaken (l' := [(0, .slice ao bl.length c), (2, .int .i64 keep), (10, .pointer (some ⟨dg, 0, none⟩)), (11, .pointer (some ⟨g, 0, none⟩)), (12, v), (13, .int .i64 (i : Int)), (15, vp), (16, .int .i64 (j : Int))]) (Sub.cons (rfl) (Sub.cons (rfl) (Sub.cons (rfl) (Sub.cons (rfl) (Sub.cons (rfl) (Sub.cons (rfl) (Sub.cons (rfl) (Sub.cons (rfl) (Sub.nil))))))))) ?_
              refine C.seq ?_
              refine C.seq ?_
              refine C.region ?_
              refine W.move rfl rfl ?_
              refine W.move rfl rfl ?_
              refine W.move rfl rfl ?_
              refine W.indexE EBatX Try.underlying62 rfl (Els.ext rBat hE59 hX2) rfl hlt rfl ?_
              intro ad73 cs73 hc73 hR73 hl73
              rw [← hx] at hR73
              obtain ⟨vi73, vl73, rfl, hI73, hLt73, _⟩ := hR73
              obtain ⟨aI73, cI73, rfl, _⟩ := RNums.form hI73
              refine W.fieldAddr (off := 2) (size := 1) (t := 30) (Fld.of (by kernel_rfl)) rfl rfl rfl ?_
              refine W.load rfl Try.underlying30 rfl (hc73 2 _ rfl) rfl ?_
              refine W.lenS rfl Try.underlying30 rfl ?_
              refine W.lssI rfl rfl rfl ?_
              refine W.nil ?_
              refine At.thenCode ?_
              first | refine C.condD rfl (fun c77 => ?_) (fun c77 => ?_) | refine C.cond rfl (fun c77 => ?_) (fun c77 => ?_)
              · have hjl : j < x.inner.length := by omega
                refine C.skip ?_
                refine At.thenCode ?_
                refine C.seq ?_
                refine C.block ?_
                refine C.region ?_
                refine W.move rfl rfl ?_
                refine W.move rfl rfl ?_
                refine W.move rfl rfl ?_
                refine W.indexE EBatX Try.underlying62 rfl (Els.ext rBat hE59 hX2) rfl hlt rfl ?_
                intro ad83 cs83 hc83 hR83 hl83
                rw [← hx] at hR83
                obtain ⟨vi83, vl83, rfl, hI83, hLt83, _⟩ := hR83
                obtain ⟨aI83, cI83, rfl, hU83, _, hUl83⟩ := RNums.form hI83
                refine W.fieldAddr (off := 2) (size := 1) (t := 30) (Fld.of (by kernel_rfl)) rfl rfl rfl ?_
                refine W.load rfl Try.underlying30 rfl (hc83 2 _ rfl) rfl ?_
                refine W.move rfl rfl ?_
                refine W.indexS (i := (j : Int)) U64 Try.underlying30 rfl hU83 rfl ⟨by omega, by omega⟩ rfl ?_
                intro ad87 _ _ hq87
                have hc87 := hq87 0 (u64V x.inner[j]) (by rw [List.getElem?_drop, Int.toNat_natCast, Nat.mul_one, Nat.add_zero]; exact get_u64 hjl)
                rw [add_zero'] at hc87
                refine W.load (v := .int .u64 ((x.inner[j] : Nat) : Int)) rfl Try.underlying41 rfl hc87 rfl ?_
                refine W.call Try.call18 rfl (Grp.RBase_ok x.inner[j] (hUl83 _ (List.getElem_mem hjl)) _) rfl ?_
                rintro v89 w89 ⟨rfl, rfl⟩
                refine W.buildS (fs := _) [(0, 1), (1, 1), (2, 1), (3, 1), (4, 2), (6, 2), (8, 2)] ((List.replicate 10 (Value.int .u64 0)).set 3 (.int .u64 ((timesV 37 x.inner[j] : Nat) : Int))) (List.replicate 10 (Value.int .u64 0)) Try.underlying47 (by kernel_rfl) (by kernel_rfl) rfl rfl rfl ?_
                refine W.litS ((List.replicate 10 (Value.int .u64 0)).set 3 (.int .u64 ((timesV 37 x.inner[j] : Nat) : Int))) EPub Try.underlying42 rfl rfl (by decide) rfl ?_
                intro g91 w91 hg91 hX91 _ hs91
                have hlt92 := fun k hk => OwE.lt hO2 k hk
                have hsz92 := hX2.size
                refine W.appendE1 rPub EPub Try.underlying42 rfl rfl (OwE.ext rPub hO2 hX91) hs91 ⟨rfl, (by intro u hu; simp [List.replicate, List.set] at hu; rcases hu with h | h | h <;> (rw [h]; rfl)), rfl, Nat.lt_trans (timesV_lt _ _) (by decide)⟩ (by simp; omega) (by simp; omega) (by have := hX91.size; omega) rfl ?_
                intro v92 w92 hO92 hg92 hl92
                have hX92 : Ext w59 w92 := (hX2.ext hX91).news (Chg.of_grown hg92) fun k hk => Or.inr (hlt92 k hk.symm).1
                refine W.assign rfl rfl ?_
                refine W.nil ?_
                refine At.blockNormal ?_
                refine At.thenCode ?_
                refine C.region ?_
                refine W.move rfl rfl ?_
                first | refine W.addI rfl rfl (by omega) rfl ?_ | refine W.addW rfl rfl rfl ?_
                refine W.assign rfl rfl ?_
                refine W.nil ?_
                refine At.thenRound (j + 1, v92) (Sub.cons (rfl) (Sub.cons (rfl) (Sub.cons (rfl) (Sub.cons (rfl) (Sub.cons (rfl) (Sub.cons (rfl) (Sub.cons (rfl) (Sub.cons (look_eq rfl (iV (by omega))) (Sub.nil))))))))) (show (j + 1) ≤ x.inner.length ∧ Ext w59 _ ∧ OwE (fun _ => False) _ w59.heap.size 47 10 RPub (v92) ((x.inner.take (j + 1)).map (timesV 37)) from ?_) (show x.inner.length - (j + 1) < x.inner.length - j from ?_)
                · refine ⟨by omega, hX92, ?_⟩
                  rw [List.take_succ_eq_append_getElem hjl, List.map_append]
                  exact hO92
                · omega
              · have hj' : j = x.inner.length := by omega
                subst hj'
                rw [List.take_length] at hO2
                obtain ⟨aP, cP, rfl, hEP, _⟩ := OwE.form rPub (OwE.any hO2 (B := fun _ => False)) (fun k hk h => h)
                have hXc := hX59.ext hX2
                have hL2 := hL1.more hXc
                have hE2 := Els.ext rBat hE59 hX2
                have hFr : ∀ q, Fr w24 (More Y w1 w2) q → w24.heap.size ≤ q := fun q hq => hq.2
                have hPl : (x.inner.map (timesV 37)).length = x.inner.length := List.length_map _
                refine C.exit ?_
                refine At.thenExit ?_
                refine At.thenExit ?_
                refine At.blockSelf ?_
                refine At.thenCode ?_
                refine C.seq ?_
                refine C.region ?_
                refine W.move rfl rfl ?_
                refine W.move rfl rfl ?_
                refine W.move rfl rfl ?_
                refine W.indexE EBatX Try.underlying62 rfl hE2 rfl hlt rfl ?_
                intro ad96 cs96 hc96 hR96 hl96
                rw [← hx] at hR96
                obtain ⟨vi96, vl96, rfl, hI96, hLt96, _⟩ := hR96
                refine W.loadA rfl hc96 Try.underlying33 rfl (by kernel_rfl) rfl ?_
                refine W.move rfl rfl ?_
                have hcnt := hK1.cnt
                have hbag := hK1.bag
                have hbm : BatM (Fr w24 (More Y w1 w2)) w2 x vi96 vl96 := ⟨RdOk.new rNums hI96 fun q hq _ => hFr q hq, RdOk.new (rSl 33 rLet) hLt96 fun q hq _ => hFr q hq, hok, hxi, hxl, hxb⟩
                refine W.call Try.call11 rfl (hL2.Accept hrv (ps := x.inner.map (timesV 37)) hbm hEP (by omega) (by omega) (by omega) (by rw [hbag]; show kl.length ≤ _; omega)) rfl ?_
                rintro v99 w99 ⟨rfl, hL99, hC99⟩
                have hal := (accept_len B x (x.inner.map (timesV 37))).1
                obtain ⟨st1, st2⟩ := hK1.step hok (show (batB x).length ≤ 900000 by omega)
                have hO99 := OwE.chgS rBat (OwE.ext rBat hO1 hXc) hC99 hFr fun q hq hf => hf.1 (.inl (hvY q hq))
                have hE99 := Els.chg rBat hE2 (hC99.mono hFr)
                refine W.assign rfl rfl ?_
                refine W.nil ?_
                refine At.thenCode ?_
                refine C.seq ?_
                refine C.region ?_
                refine W.move rfl rfl ?_
                refine W.call Try.call14 rfl (Law23.num_ok _ _) rfl ?_
                rintro v101 w101 ⟨rfl, rfl⟩
                refine W.eqlI rfl rfl rfl ?_
                refine W.nil ?_
                refine At.thenCode ?_
                first | refine C.condD rfl (fun c102 => ?_) (fun c102 => ?_) | refine C.cond rfl (fun c102 => ?_) (fun c102 => ?_)
                · obtain ⟨ps2, res2, hK2⟩ := st1 (by omega)
                  refine C.region ?_
                  refine W.move rfl rfl ?_
                  refine W.move rfl rfl ?_
                  refine W.move rfl rfl ?_
                  refine W.indexE EBatX Try.underlying62 rfl hE99 rfl hlt rfl ?_
                  intro ad106 cs106 hc106 hR106 hl106
                  rw [← hx] at hR106
                  refine W.loadA rfl hc106 Try.underlying33 rfl (by rw [hl106]; kernel_rfl) rfl ?_
                  refine W.litS cs106 EBatX Try.underlying62 rfl hl106 (by decide) rfl ?_
                  intro g108 w108 hg108 hX108 _ hs108
                  have hlt99 := fun q hq => OwE.lt hO99 q hq
                  have hs24 := hL99.ext.size
                  have hs108' := hX108.size
                  refine W.appendE1 rBat EBatX Try.underlying62 rfl rfl (OwE.ext rBat hO99 hX108) hs108 (RdOk.new rBat (RdOk.ext rBat hR106 hX108) fun q hq _ => by
                    rcases hq with hq | hq
                    · exact hq
                    · exact (hlt99 q hq).1) (by omega) (by omega) (by omega) rfl ?_
                  intro v109 w109 hO109 hg109 hl109
                  have hC109 : Chg (fun q => v.ownBlock = some q) w108 w109 := (Chg.of_grown hg109).mono fun q hq => hq.symm
                  have hL109 := Live.grow (hL99.xt hX108) hC109 fun q hq => ⟨.inl (hvY q hq), (hlt99 q hq).1⟩
                  refine W.assign rfl rfl ?_
                  refine W.nil ?_
                  refine At.blockNormal ?_
                  refine At.thenCode ?_
                  refine C.region ?_
                  refine W.move rfl rfl ?_
                  first | refine W.addI rfl rfl (by omega) rfl ?_ | refine W.addW rfl rfl rfl ?_
                  refine W.assign rfl rfl ?_
                  refine W.nil ?_
                  refine At.thenRound (i + 1, v109, kl ++ [x], acceptB B x (x.inner.map (timesV 37)), ps2, res2, More (More Y w1 w2) w108 w109) (Sub.cons (rfl) (Sub.cons (rfl) (Sub.cons (rfl) (Sub.cons (rfl) (Sub.cons (rfl) (Sub.cons (look_eq rfl (iV (by omega))) (Sub.nil))))))) (show (i + 1) ≤ bl.length ∧ Live w24 _ (More (More Y w1 w2) w108 w109) g dg (max 0 room) (acceptB B x (x.inner.map (timesV 37))) ∧ KpI (kl ++ [x]) (i + 1) (acceptB B x (x.inner.map (timesV 37))) (ps2) (res2) ∧ (acceptB B x (x.inner.map (timesV 37))).D.bs.length ≤ (i + 1) * 20000 ∧ OwE (fun q_ => w24.heap.size ≤ q_) _ w24.heap.size 33 4 RBat (v109) (kl ++ [x]) ∧ (∀ q_, (v109).ownBlock = some q_ → (More (More Y w1 w2) w108 w109) q_) ∧ (∀ z_ ∈ (kl ++ [x]), z_ ∈ bl) from ?_) (show bl.length - (i + 1) < bl.length - i from ?_)
                  · refine ⟨by omega, hL109, hK2, by omega, hO109, fun q hq => ?_, fun y hy => ?_⟩
                    · have hq2 := OwE.lt hO109 q hq
                      rcases hl109 with h | ⟨q', h, h'⟩
                      · rw [h] at hq; exact .inl (.inl (hvY q hq))
                      · rw [h] at hq; obtain rfl := Option.some.inj hq; exact .inr ⟨h', hq2.2⟩
                    · rcases List.mem_append.1 hy with hy | hy
                      · exact hkb y hy
                      · obtain rfl := List.mem_singleton.1 hy; exact hxm
                  · omega
                · obtain ⟨ps2, res2, hK2⟩ := st2 (by omega)
                  refine C.skip ?_
                  refine At.blockNormal ?_
                  refine At.thenCode ?_
                  refine C.region ?_
                  refine W.move rfl rfl ?_
                  first | refine W.addI rfl rfl (by omega) rfl ?_ | refine W.addW rfl rfl rfl ?_
                  refine W.assign rfl rfl ?_
                  refine W.nil ?_
                  refine At.thenRound (i + 1, v, kl, acceptB B x (x.inner.map (timesV 37)), ps2, res2, More Y w1 w2) (Sub.cons (rfl) (Sub.cons (rfl) (Sub.cons (rfl) (Sub.cons (rfl) (Sub.cons (rfl) (Sub.cons (look_eq rfl (iV (by omega))) (Sub.nil))))))) (show (i + 1) ≤ bl.length ∧ Live w24 _ (More Y w1 w2) g dg (max 0 room) (acceptB B x (x.inner.map (timesV 37))) ∧ KpI (kl) (i + 1) (acceptB B x (x.inner.map (timesV 37))) (ps2) (res2) ∧ (acceptB B x (x.inner.map (timesV 37))).D.bs.length ≤ (i + 1) * 20000 ∧ OwE (fun q_ => w24.heap.size ≤ q_) _ w24.heap.size 33 4 RBat (v) (kl) ∧ (∀ q_, (v).ownBlock = some q_ → (More Y w1 w2) q_) ∧ (∀ z_ ∈ (kl), z_ ∈ bl) from ?_) (show bl.length - (i + 1) < bl.length - i from ?_)
                  · exact ⟨by omega, hL99, hK2, by omega, hO99, fun q hq => .inl (hvY q hq), hkb⟩
                  · omega
        · have hi' : i = bl.length := by omega
          subst hi'
          obtain ⟨aK, cK, rfl, hEK, _⟩ := OwE.form rBat (OwE.new rBat hO1 (B := Fr w24 Y) fun q hq _ => .inl hq.2) (fun q hq hf => hf.1 (hvY q hq))
          have hbag : B.s.l = kl := by rw [hK1.bag]
          obtain ⟨l2, hl2, hor, hlim⟩ := hK1.crash keep
          have hsub : ∀ y ∈ kl, y ∈ l2 := by
            intro y hy
            rcases hor with h | ⟨z, h, _⟩
            · rw [h]; exact hy
            · rw [h]; exact List.mem_append.2 (.inl hy)
          have hcnt := hK1.cnt
          have hll2 : kl.length ≤ l2.length ∧ l2.length ≤ bl.length := by
            rcases hor with h | ⟨z, h, hz⟩
            · rw [h]; omega
            · rw [h, List.length_append, List.length_singleton]; omega
          refine C.exit ?_
          refine At.thenExit ?_
          refine At.thenExit ?_
          refine At.blockSelf ?_
          refine At.thenCode ?_
          refine C.seq ?_
          refine C.seq ?_
          refine C.region ?_
          refine W.move rfl rfl ?_
          refine W.call Try.call17 rfl hL1.Len rfl ?_
          rintro v111 w111 ⟨rfl, rfl⟩
          rw [hbag]
          refine W.move rfl rfl ?_
          refine W.lenS rfl Try.underlying62 rfl ?_
          refine W.neqI rfl rfl rfl ?_
          refine W.eqv (bF (fun h => h rfl)) ?_
          refine W.nil ?_
          refine At.thenCode ?_
          refine C.condF rfl ?_
          refine C.skip ?_
          refine At.thenCode ?_
          refine C.seq ?_
          refine C.region ?_
          refine W.move rfl rfl ?_
          refine W.call Try.call25 rfl (hL1.disk.Fail none 0 [] (Sl.none _ _) (by decide)) rfl ?_
          rintro v116 w116 ⟨hD116, hC116⟩
          refine W.nil ?_
          refine At.thenCode ?_
          refine C.seq ?_
          refine C.region ?_
          refine W.move rfl rfl ?_
          refine W.move rfl rfl ?_
          refine W.call Try.call26 rfl (hD116.Crash keep) rfl ?_
          rintro v119 w119 ⟨hD119, hC119⟩
          refine W.nil ?_
          refine At.thenCode ?_
          refine C.seq ?_
          refine C.region ?_
          refine W.move rfl rfl ?_
          refine W.call Try.call10 rfl (hD119.Open (Nat.le_trans (crash_len _ _) (show B.D.bs.length ≤ 1000000 by omega))) rfl ?_
          rintro v121 w121 ⟨g2, rfl, hL121, hC121⟩
          have hE121 : Els (Fr w24 Y) w121 4 RBat aK cK kl := Els.chg rBat (Els.chg rBat (Els.chg rBat hEK hC116) hC119) hC121
          have hEN : Els NoA w121 4 RBat aK cK kl := Els.new rBat hE121 fun _ h _ => h.elim
          obtain ⟨B2, hB2⟩ : ∃ B2, B2 = openB (crashD (setFails B.D []) keep) := ⟨_, rfl⟩
          rw [← hB2] at hL121 hl2
          have hl2' : B2.s.l = l2 := by rw [hl2]
          refine W.assign rfl rfl ?_
          refine W.nil ?_
          refine At.thenCode ?_
          refine C.seq ?_
          refine C.seq ?_
          refine C.region ?_
          refine W.move rfl rfl ?_
          refine W.eqlPtr rfl rfl rfl rfl ?_
          refine W.eqv (v' := .bool false) (rfl) ?_
          refine W.move rfl rfl ?_
          refine W.wants rfl rfl rfl rfl ?_
          refine W.move rfl rfl ?_
          refine W.wants rfl rfl rfl rfl ?_
          refine W.call Try.call17 rfl hL121.Len rfl ?_
          rintro v126 w126 ⟨rfl, rfl⟩
          rw [hl2']
          refine W.wants rfl rfl rfl rfl ?_
          refine W.move rfl rfl ?_
          refine W.wants rfl rfl rfl rfl ?_
          refine W.lenS rfl Try.underlying62 rfl ?_
          refine W.wants rfl rfl rfl rfl ?_
          refine W.lssI rfl rfl rfl ?_
          refine W.eqv (bF (by omega)) ?_
          refine W.pickF rfl rfl rfl ?_
          refine W.move rfl rfl ?_
          refine W.wants rfl rfl rfl rfl ?_
          refine W.move rfl rfl ?_
          refine W.wants rfl rfl rfl rfl ?_
          refine W.call Try.call17 rfl hL121.Len rfl ?_
          rintro v133 w133 ⟨rfl, rfl⟩
          rw [hl2']
          refine W.wants rfl rfl rfl rfl ?_
          refine W.move rfl rfl ?_
          refine W.wants rfl rfl rfl rfl ?_
          refine W.lenS rfl Try.underlying62 rfl ?_
          refine W.wants rfl rfl rfl rfl ?_
          refine W.gtrI rfl rfl rfl ?_
          refine W.eqv (bF (by omega)) ?_
          refine W.pickF rfl rfl rfl ?_
          refine W.nil ?_
          refine At.thenCode ?_
          refine C.condF rfl ?_
          refine C.skip ?_
          refine At.thenCode ?_
          refine C.seq ?_
          refine C.seq ?_
          refine C.region ?_
          refine W.assign rfl rfl ?_
          refine W.nil ?_
          refine At.thenCode ?_
          refine C.block ?_
          refine C.loop (X := Nat) (fun x_ => [(12, .slice aK kl.length cK), (18, .pointer (some ⟨g2, 0, none⟩)), (19, .int .i64 (x_ : Int))]) (fun x_ w3 => x_ ≤ kl.length ∧ Ext w121 w3) (fun x_ => kl.length - x_) (0) (Sub.cons (rfl) (Sub.cons (rfl) (Sub.cons (rfl) (Sub.nil)))) ?start3 ?_
          case start3 =>
            show (0) ≤ kl.length ∧ Ext w121 _
            exact ⟨by omega, Ext.refl _⟩
          rintro a w3 hI_
          replace hI_ : a ≤ kl.length ∧ Ext w121 w3 := hI_
          obtain ⟨ha, hX3⟩ := hI_
          refine C.weaken (l' := [(12, .slice aK kl.length cK), (18, .pointer (some ⟨g2, 0, none⟩)), (19, .int .i64 (a : Int))]) (Sub.cons (rfl) (Sub.cons (rfl) (Sub.cons (rfl) (Sub.nil)))) ?_
          refine C.seq ?_
          refine C.seq ?_
          refine C.region ?_
          refine W.move rfl rfl ?_
          refine W.move rfl rfl ?_
          refine W.lenS rfl Try.underlying62 rfl ?_
          refine W.lssI rfl rfl rfl ?_
          refine W.nil ?_
          refine At.thenCode ?_
          first | refine C.condD rfl (fun c141 => ?_) (fun c141 => ?_) | refine C.cond rfl (fun c141 => ?_) (fun c141 => ?_)
          · have hal : a < kl.length := by omega
            obtain ⟨y, hy⟩ : ∃ y, y = kl[a] := ⟨_, rfl⟩
            have hym : y ∈ kl := hy ▸ List.getElem_mem hal
            have hyl := (hb y (hkb y hym)).2.1
            have hyok : BatOk y := by
              obtain ⟨_, hh⟩ := Cod.Els.get hEN hal
              obtain ⟨_, _, _, _, _, hh⟩ := hh
              rw [hy]; exact hh
            refine C.skip ?_
            refine At.thenCode ?_
            refine C.seq ?_
            refine C.block ?_
            refine C.seq ?_
            refine C.seq ?_
            refine C.regionAny 13 ((fun v w => v = .pointer (some ⟨g2, 0, none⟩)) :: (fun v w => v = .slice aK kl.length cK) :: (fun v w => v = .int .i64 (a : Int)) :: (fun v w => ∃ ad, v = .pointer (some ad) ∧ ∃ vi vl, Cells w ad [.int .i64 y.round, .int .i64 y.chain, vi, vl]) :: (fun v w => ∃ ad, v = .pointer (some ad) ∧ w.cell? ad = some (.int .i64 y.round)) :: (fun v w => v = .int .i64 y.round) :: (fun v w => v = .slice aK kl.length cK) :: (fun v w => v = .int .i64 (a : Int)) :: (fun v w => ∃ ad, v = .pointer (some ad) ∧ ∃ vi vl, Cells w ad [.int .i64 y.round, .int .i64 y.chain, vi, vl]) :: (fun v w => ∃ ad, v = .pointer (some ad) ∧ w.cell? ad = some (.int .i64 y.chain)) :: (fun v w => v = .int .i64 y.chain) :: (fun v w => v = .bool true) :: (fun v w => v = .bool false) :: []) [(12, .slice aK kl.length cK), (18, .pointer (some ⟨g2, 0, none⟩)), (19, .int .i64 (a : Int))] [] (Sub.cons (rfl) (Sub.cons (rfl) (Sub.cons (rfl) (Sub.nil)))) (Sub.nil) (Sub.cons (rfl) (Sub.cons (rfl) (Sub.cons (rfl) (Sub.nil)))) (by kernel_rfl) rfl rfl rfl (And.intro (fun _ _ _ h _ => h) (And.intro (fun _ _ _ h _ => h) (And.intro (fun _ _ _ h _ => h) (And.intro (fun _ _ _ h g => by obtain ⟨ad, e, vi, vl, h1⟩ := h; exact ⟨ad, e, vi, vl, h1.chg g (fun c => c)⟩) (And.intro (fun _ _ _ h g => by obtain ⟨ad, e, h1⟩ := h; exact ⟨ad, e, Chg.cell g h1 fun c => c⟩) (And.intro (fun _ _ _ h _ => h) (And.intro (fun _ _ _ h _ => h) (And.intro (fun _ _ _ h _ => h) (And.intro (fun _ _ _ h g => by obtain ⟨ad, e, vi, vl, h1⟩ := h; exact ⟨ad, e, vi, vl, h1.chg g (fun c => c)⟩) (And.intro (fun _ _ _ h g => by obtain ⟨ad, e, h1⟩ := h; exact ⟨ad, e, Chg.cell g h1 fun c => c⟩) (And.intro (fun _ _ _ h _ => h) (And.intro (fun _ _ _ h _ => h) (And.intro (fun _ _ _ h _ => h) (trivial)))))))))))))) ?_ ?_
            · refine And.intro ?_ ?_
              · intro L_ wr hX_ hs_ hf_ hd_
                refine W.step [(18, _)] (Sub.cons (hs_ _ _ rfl) (Sub.refl _)) ?_
                refine W.move rfl rfl ?_
                refine W.nil ?_
                exact At.step (Ext.refl _) rfl
              refine And.intro ?_ ?_
              · intro L_ wr hX_ hs_ hf_ hd_
                refine W.step [(12, _)] (Sub.cons (hs_ _ _ rfl) (Sub.refl _)) ?_
                refine W.move rfl rfl ?_
                refine W.nil ?_
                exact At.step (Ext.refl _) rfl
              refine And.intro ?_ ?_
              · intro L_ wr hX_ hs_ hf_ hd_
                refine W.step [(19, _)] (Sub.cons (hs_ _ _ rfl) (Sub.refl _)) ?_
                refine W.move rfl rfl ?_
                refine W.nil ?_
                exact At.step (Ext.refl _) rfl
              refine And.intro ?_ ?_
              · intro L_ wr hX_ hs_ hf_ hd_
                obtain ⟨v1, e1, r1⟩ := hd_ 1 rfl
                obtain rfl : (.slice aK kl.length cK : Value) = v1 := Eq.symm r1
                obtain ⟨v2, e2, r2⟩ := hd_ 2 rfl
                obtain rfl : (.int .i64 (a : Int) : Value) = v2 := Eq.symm r2
                refine W.step [(145, _), (146, _)] (Sub.cons (e1 _ rfl) (Sub.cons (e2 _ rfl) (Sub.refl _))) ?_
                refine W.indexE EBatX Try.underlying62 rfl ((hEN.ext rBat hX3).ext rBat hX_) rfl hal rfl ?_
                rintro ad147 cs147 hc147 hR147 hl147
                rw [← hy] at hR147
                obtain ⟨vi147, vl147, rfl, _⟩ := hR147
                refine W.nil ?_
                exact At.step (Ext.refl _) ⟨ad147, rfl, vi147, vl147, hc147⟩
              refine And.intro ?_ ?_
              · intro L_ wr hX_ hs_ hf_ hd_
                obtain ⟨v3, e3, r3⟩ := hd_ 3 rfl
                obtain ⟨ad3, rfl, vi3, vl3, hc3⟩ := r3
                refine W.step [(147, _)] (Sub.cons (e3 _ rfl) (Sub.refl _)) ?_
                refine W.fieldAddr (off := 0) (size := 1) (t := 3) (Fld.of (by kernel_rfl)) rfl rfl rfl ?_
                refine W.nil ?_
                exact At.step (Ext.refl _) ⟨ad3.add 0, rfl, hc3 0 _ rfl⟩
              refine And.intro ?_ ?_
              · intro L_ wr hX_ hs_ hf_ hd_
                obtain ⟨v4, e4, r4⟩ := hd_ 4 rfl
                obtain ⟨ad4, rfl, hc4⟩ := r4
                refine W.step [(148, _)] (Sub.cons (e4 _ rfl) (Sub.refl _)) ?_
                refine W.load (v := .int .i64 y.round) rfl Try.underlying3 rfl hc4 rfl ?_
                refine W.nil ?_
                exact At.step (Ext.refl _) rfl
              refine And.intro ?_ ?_
              · intro L_ wr hX_ hs_ hf_ hd_
                refine W.step [(12, _)] (Sub.cons (hs_ _ _ rfl) (Sub.refl _)) ?_
                refine W.move rfl rfl ?_
                refine W.nil ?_
                exact At.step (Ext.refl _) rfl
              refine And.intro ?_ ?_
              · intro L_ wr hX_ hs_ hf_ hd_
                refine W.step [(19, _)] (Sub.cons (hs_ _ _ rfl) (Sub.refl _)) ?_
                refine W.move rfl rfl ?_
                refine W.nil ?_
                exact At.step (Ext.refl _) rfl
              refine And.intro ?_ ?_
              · intro L_ wr hX_ hs_ hf_ hd_
                obtain ⟨v6, e6, r6⟩ := hd_ 6 rfl
                obtain rfl : (.slice aK kl.length cK : Value) = v6 := Eq.symm r6
                obtain ⟨v7, e7, r7⟩ := hd_ 7 rfl
                obtain rfl : (.int .i64 (a : Int) : Value) = v7 := Eq.symm r7
                refine W.step [(150, _), (151, _)] (Sub.cons (e6 _ rfl) (Sub.cons (e7 _ rfl) (Sub.refl _))) ?_
                refine W.indexE EBatX Try.underlying62 rfl ((hEN.ext rBat hX3).ext rBat hX_) rfl hal rfl ?_
                rintro ad152 cs152 hc152 hR152 hl152
                rw [← hy] at hR152
                obtain ⟨vi152, vl152, rfl, _⟩ := hR152
                refine W.nil ?_
                exact At.step (Ext.refl _) ⟨ad152, rfl, vi152, vl152, hc152⟩
              refine And.intro ?_ ?_
              · intro L_ wr hX_ hs_ hf_ hd_
                obtain ⟨v8, e8, r8⟩ := hd_ 8 rfl
                obtain ⟨ad8, rfl, vi8, vl8, hc8⟩ := r8
                refine W.step [(152, _)] (Sub.cons (e8 _ rfl) (Sub.refl _)) ?_
                refine W.fieldAddr (off := 1) (size := 1) (t := 3) (Fld.of (by kernel_rfl)) rfl rfl rfl ?_
                refine W.nil ?_
                exact At.step (Ext.refl _) ⟨ad8.add 1, rfl, hc8 1 _ rfl⟩
              refine And.intro ?_ ?_
              · intro L_ wr hX_ hs_ hf_ hd_
                obtain ⟨v9, e9, r9⟩ := hd_ 9 rfl
                obtain ⟨ad9, rfl, hc9⟩ := r9
                refine W.step [(153, _)] (Sub.cons (e9 _ rfl) (Sub.refl _)) ?_
                refine W.load (v := .int .i64 y.chain) rfl Try.underlying3 rfl hc9 rfl ?_
                refine W.nil ?_
                exact At.step (Ext.refl _) rfl
              refine And.intro ?_ ?_
              · intro L_ wr hX_ hs_ hf_ hd_
                obtain ⟨v0, e0, r0⟩ := hd_ 0 rfl
                obtain rfl : (.pointer (some ⟨g2, 0, none⟩) : Value) = v0 := Eq.symm r0
                obtain ⟨v5, e5, r5⟩ := hd_ 5 rfl
                obtain rfl : (.int .i64 y.round : Value) = v5 := Eq.symm r5
                obtain ⟨v10, e10, r10⟩ := hd_ 10 rfl
                obtain rfl : (.int .i64 y.chain : Value) = v10 := Eq.symm r10
                refine W.step [(144, _), (149, _), (154, _)] (Sub.cons (e0 _ rfl) (Sub.cons (e5 _ rfl) (Sub.cons (e10 _ rfl) (Sub.refl _)))) ?_
                refine W.call Try.call16 rfl (((hL121.xt hX3).xt hX_).Has (r := y.round) (c := y.chain) hyok.1 hyok.2.1) rfl ?_
                rintro v155 w155 ⟨rfl, rfl⟩
                rw [hl2', hasL_mem (hsub y hym)]
                refine W.nil ?_
                exact At.step (Ext.refl _) rfl
              refine And.intro ?_ ?_
              · intro L_ wr hX_ hs_ hf_ hd_
                obtain ⟨v11, e11, r11⟩ := hd_ 11 rfl
                obtain rfl : (.bool true : Value) = v11 := Eq.symm r11
                refine W.step [(155, _)] (Sub.cons (e11 _ rfl) (Sub.refl _)) ?_
                first | refine W.notD rfl rfl ?_ | refine W.notB rfl rfl ?_
                refine W.eqv (v' := .bool false) (rfl) ?_
                refine W.nil ?_
                exact At.step (Ext.refl _) rfl
              exact trivial
            · intro L_ wr hX32 hs_ hv_
              obtain ⟨v12, e12, r12⟩ := hv_ 12 (by decide)
              obtain rfl : (.bool false : Value) = v12 := Eq.symm r12
              refine W.weaken (l' := [(156, _), (12, _), (18, _), (19, _)]) (Sub.cons (e12 _ rfl) (Sub.cons (hs_ _ _ rfl) (Sub.cons (hs_ _ _ rfl) (Sub.cons (hs_ _ _ rfl) (Sub.nil))))) ?_
              refine W.nil ?_
              refine At.thenCode ?_
              refine C.condF rfl ?_
              refine C.skip ?_
              refine At.thenCode ?_
              refine C.seq ?_
              refine C.region ?_
              refine W.assign rfl rfl ?_
              refine W.nil ?_
              refine At.thenCode ?_
              refine C.block ?_
              refine C.loop (X := Nat) (fun x_ => [(12, .slice aK kl.length cK), (18, .pointer (some ⟨g2, 0, none⟩)), (19, .int .i64 (a : Int)), (20, .int .i64 (x_ : Int))]) (fun x_ w4 => x_ ≤ y.lets.length ∧ Ext w121 w4) (fun x_ => y.lets.length - x_) (0) (Sub.cons (rfl) (Sub.cons (rfl) (Sub.cons (rfl) (Sub.cons (rfl) (Sub.nil))))) ?start4 ?_
              case start4 =>
                show (0) ≤ y.lets.length ∧ Ext w121 _
                exact ⟨by omega, hX3.ext hX32⟩
              rintro b w4 hI_
              replace hI_ : b ≤ y.lets.length ∧ Ext w121 w4 := hI_
              obtain ⟨hbb, hX4⟩ := hI_
              refine C.weaken (l' := [(12, .slice aK kl.length cK), (18, .pointer (some ⟨g2, 0, none⟩)), (19, .int .i64 (a : Int)), (20, .int .i64 (b : Int))]) (Sub.cons (rfl) (Sub.cons (rfl) (Sub.cons (rfl) (Sub.cons (rfl) (Sub.nil))))) ?_
              refine C.seq ?_
              refine C.seq ?_
              refine C.region ?_
              refine W.move rfl rfl ?_
              refine W.move rfl rfl ?_
              refine W.move rfl rfl ?_
              refine W.indexE EBatX Try.underlying62 rfl (hEN.ext rBat hX4) rfl hal rfl ?_
              rintro ad160 cs160 hc160 hR160 hl160
              rw [← hy] at hR160
              obtain ⟨vi160, vl160, rfl, _, hLt160, _⟩ := hR160
              obtain ⟨aL160, cL160, rfl, _⟩ := RSl.form hLt160
              refine W.fieldAddr (off := 3) (size := 1) (t := 31) (Fld.of (by kernel_rfl)) rfl rfl rfl ?_
              refine W.load rfl Try.underlying31 rfl (hc160 3 _ rfl) rfl ?_
              refine W.lenS rfl Try.underlying31 rfl ?_
              refine W.lssI rfl rfl rfl ?_
              refine W.nil ?_
              refine At.thenCode ?_
              first | refine C.condD rfl (fun c164 => ?_) (fun c164 => ?_) | refine C.cond rfl (fun c164 => ?_) (fun c164 => ?_)
              · have hbl : b < y.lets.length := by omega
                obtain ⟨p, hp⟩ : ∃ p, p = y.lets[b] := ⟨_, rfl⟩
                have hpm : p ∈ y.lets := hp ▸ List.getElem_mem hbl
                have hpk : p.1.length = 32 := hyok.2.2.2 p hpm
                obtain ⟨got, hgot⟩ : ∃ got, got = fetchL l2 p.1 y.round y.round := ⟨_, rfl⟩
                have hgl : got.length ≤ 100000 := by
                  have := fetch_len hlim p.1 y.round y.round
                  rw [← hgot] at this
                  omega
                refine C.skip ?_
                refine At.thenCode ?_
                refine C.seq ?_
                refine C.block ?_
                refine C.seq ?_
                refine C.region ?_
                refine W.assign rfl rfl ?_
                refine W.nil ?_
                refine At.thenCode ?_
                refine C.seq ?_
                refine C.regionAny 22 ((fun v w => v = .pointer (some ⟨g2, 0, none⟩)) :: (fun v w => v = .slice aK kl.length cK) :: (fun v w => v = .int .i64 (a : Int)) :: (fun v w => ∃ ad, v = .pointer (some ad) ∧ ∃ vi vl, Cells w ad [.int .i64 y.round, .int .i64 y.chain, vi, vl] ∧ RSl 33 RLet NoA w [vl] y.lets) :: (fun v w => ∃ ad vl, v = .pointer (some ad) ∧ w.cell? ad = some vl ∧ RSl 33 RLet NoA w [vl] y.lets) :: (fun v w => RSl 33 RLet NoA w [v] y.lets) :: (fun v w => v = .int .i64 (b : Int)) :: (fun v w => ∃ ad, v = .pointer (some ad) ∧ ∃ v1, Cells w ad (p.1.map byteV ++ [v1]) ∧ RByt NoA w [v1] p.2 ∧ p.1.length = 32) :: (fun v w => ∃ ad, v = .pointer (some ad) ∧ Cells w ad (p.1.map byteV) ∧ p.1.length = 32) :: (fun v w => v = .agg (p.1.map byteV).toArray) :: (fun v w => v = .slice aK kl.length cK) :: (fun v w => v = .int .i64 (a : Int)) :: (fun v w => ∃ ad, v = .pointer (some ad) ∧ ∃ vi vl, Cells w ad [.int .i64 y.round, .int .i64 y.chain, vi, vl]) :: (fun v w => ∃ ad, v = .pointer (some ad) ∧ w.cell? ad = some (.int .i64 y.round)) :: (fun v w => v = .int .i64 y.round) :: (fun v w => v = .slice aK kl.length cK) :: (fun v w => v = .int .i64 (a : Int)) :: (fun v w => ∃ ad, v = .pointer (some ad) ∧ ∃ vi vl, Cells w ad [.int .i64 y.round, .int .i64 y.chain, vi, vl]) :: (fun v w => ∃ ad, v = .pointer (some ad) ∧ w.cell? ad = some (.int .i64 y.round)) :: (fun v w => v = .int .i64 y.round) :: (fun v w => ∃ aG cG, v = .slice aG got.length cG ∧ Els NoA w 33 RLet aG cG got) :: (fun v w => ∃ aG cG, v = .slice aG got.length cG ∧ Els NoA w 33 RLet aG cG got) :: []) [(12, .slice aK kl.length cK), (18, .pointer (some ⟨g2, 0, none⟩)), (19, .int .i64 (a : Int)), (20, .int .i64 (b : Int)), (21, .bool false)] [] (Sub.cons (rfl) (Sub.cons (rfl) (Sub.cons (rfl) (Sub.cons (rfl) (Sub.cons (rfl) (Sub.nil)))))) (Sub.nil) (Sub.cons (rfl) (Sub.cons (rfl) (Sub.cons (rfl) (Sub.cons (rfl) (Sub.cons (rfl) (Sub.nil)))))) (by kernel_rfl) rfl rfl rfl (And.intro (fun _ _ _ h _ => h) (And.intro (fun _ _ _ h _ => h) (And.intro (fun _ _ _ h _ => h) (And.intro (fun _ _ _ h g => by obtain ⟨ad, e, vi, vl, h1, h2⟩ := h; exact ⟨ad, e, vi, vl, h1.chg g (fun c => c), RdOk.ext (rSl 33 rLet) h2 g⟩) (And.intro (fun _ _ _ h g => by obtain ⟨ad, vl, e, h1, h2⟩ := h; exact ⟨ad, vl, e, Chg.cell g h1 fun c => c, RdOk.ext (rSl 33 rLet) h2 g⟩) (And.intro (fun _ _ _ h g => RdOk.ext (rSl 33 rLet) h g) (And.intro (fun _ _ _ h _ => h) (And.intro (fun _ _ _ h g => by obtain ⟨ad, e, v1, h1, h2, h3⟩ := h; exact ⟨ad, e, v1, h1.chg g (fun c => c), RdOk.ext rByt h2 g, h3⟩) (And.intro (fun _ _ _ h g => by obtain ⟨ad, e, h1, h3⟩ := h; exact ⟨ad, e, h1.chg g (fun c => c), h3⟩) (And.intro (fun _ _ _ h _ => h) (And.intro (fun _ _ _ h _ => h) (And.intro (fun _ _ _ h _ => h) (And.intro (fun _ _ _ h g => by obtain ⟨ad, e, vi, vl, h1⟩ := h; exact ⟨ad, e, vi, vl, h1.chg g (fun c => c)⟩) (And.intro (fun _ _ _ h g => by obtain ⟨ad, e, h1⟩ := h; exact ⟨ad, e, Chg.cell g h1 fun c => c⟩) (And.intro (fun _ _ _ h _ => h) (And.intro (fun _ _ _ h _ => h) (And.intro (fun _ _ _ h _ => h) (And.intro (fun _ _ _ h g => by obtain ⟨ad, e, vi, vl, h1⟩ := h; exact ⟨ad, e, vi, vl, h1.chg g (fun c => c)⟩) (And.intro (fun _ _ _ h g => by obtain ⟨ad, e, h1⟩ := h; exact ⟨ad, e, Chg.cell g h1 fun c => c⟩) (And.intro (fun _ _ _ h _ => h) (And.intro (fun _ _ _ h g => by obtain ⟨aG, cG, e, h1⟩ := h; exact ⟨aG, cG, e, Els.ext rLet h1 g⟩) (And.intro (fun _ _ _ h g => by obtain ⟨aG, cG, e, h1⟩ := h; exact ⟨aG, cG, e, Els.ext rLet h1 g⟩) (trivial))))))))))))))))))))))) ?_ ?_
                · refine And.intro ?_ ?_
                  · intro L_ wf hX_ hs_ hf_ hd_
                    refine W.step [(18, _)] (Sub.cons (hs_ _ _ rfl) (Sub.refl _)) ?_
                    refine W.move rfl rfl ?_
                    refine W.nil ?_
                    exact At.step (Ext.refl _) rfl
                  refine And.intro ?_ ?_
                  · intro L_ wf hX_ hs_ hf_ hd_
                    refine W.step [(12, _)] (Sub.cons (hs_ _ _ rfl) (Sub.refl _)) ?_
                    refine W.move rfl rfl ?_
                    refine W.nil ?_
                    exact At.step (Ext.refl _) rfl
                  refine And.intro ?_ ?_
                  · intro L_ wf hX_ hs_ hf_ hd_
                    refine W.step [(19, _)] (Sub.cons (hs_ _ _ rfl) (Sub.refl _)) ?_
                    refine W.move rfl rfl ?_
                    refine W.nil ?_
                    exact At.step (Ext.refl _) rfl
                  refine And.intro ?_ ?_
                  · intro L_ wf hX_ hs_ hf_ hd_
                    obtain ⟨v1, e1, r1⟩ := hd_ 1 rfl
                    obtain rfl : (.slice aK kl.length cK : Value) = v1 := Eq.symm r1
                    obtain ⟨v2, e2, r2⟩ := hd_ 2 rfl
                    obtain rfl : (.int .i64 (a : Int) : Value) = v2 := Eq.symm r2
                    refine W.step [(168, _), (169, _)] (Sub.cons (e1 _ rfl) (Sub.cons (e2 _ rfl) (Sub.refl _))) ?_
                    refine W.indexE EBatX Try.underlying62 rfl ((hEN.ext rBat hX4).ext rBat hX_) rfl hal rfl ?_
                    rintro ad170 cs170 hc170 hR170 hl170
                    rw [← hy] at hR170
                    obtain ⟨vi170, vl170, rfl, _, hLt170, _⟩ := hR170
                    refine W.nil ?_
                    exact At.step (Ext.refl _) ⟨ad170, rfl, vi170, vl170, hc170, hLt170⟩
                  refine And.intro ?_ ?_
                  · intro L_ wf hX_ hs_ hf_ hd_
                    obtain ⟨v3, e3, r3⟩ := hd_ 3 rfl
                    obtain ⟨ad3, rfl, vi3, vl3, hc3, hq3⟩ := r3
                    refine W.step [(170, _)] (Sub.cons (e3 _ rfl) (Sub.refl _)) ?_
                    refine W.fieldAddr (off := 3) (size := 1) (t := 31) (Fld.of (by kernel_rfl)) rfl rfl rfl ?_
                    refine W.nil ?_
                    exact At.step (Ext.refl _) ⟨ad3.add 3, vl3, rfl, hc3 3 _ rfl, hq3⟩
                  refine And.intro ?_ ?_
                  · intro L_ wf hX_ hs_ hf_ hd_
                    obtain ⟨v4, e4, r4⟩ := hd_ 4 rfl
                    obtain ⟨ad4, vl4, rfl, hc4, hq4⟩ := r4
                    refine W.step [(171, _)] (Sub.cons (e4 _ rfl) (Sub.refl _)) ?_
                    refine W.load rfl Try.underlying31 rfl hc4 rfl ?_
                    refine W.nil ?_
                    exact At.step (Ext.refl _) hq4
                  refine And.intro ?_ ?_
                  · intro L_ wf hX_ hs_ hf_ hd_
                    refine W.step [(20, _)] (Sub.cons (hs_ _ _ rfl) (Sub.refl _)) ?_
                    refine W.move rfl rfl ?_
                    refine W.nil ?_
                    exact At.step (Ext.refl _) rfl
                  refine And.intro ?_ ?_
                  · intro L_ wf hX_ hs_ hf_ hd_
                    obtain ⟨v5, e5, r5⟩ := hd_ 5 rfl
                    obtain ⟨a5, c5, rfl, hE5⟩ := RSl.form r5
                    obtain ⟨v6, e6, r6⟩ := hd_ 6 rfl
                    obtain rfl : (.int .i64 (b : Int) : Value) = v6 := Eq.symm r6
                    refine W.step [(172, _), (173, _)] (Sub.cons (e5 _ rfl) (Sub.cons (e6 _ rfl) (Sub.refl _))) ?_
                    refine W.indexE ELet Try.underlying31 rfl hE5 rfl hbl rfl ?_
                    rintro ad174 cs174 hc174 ⟨v174, rfl, hR174, hx174⟩ _
                    rw [← hp] at hR174 hx174 hc174
                    refine W.nil ?_
                    exact At.step (Ext.refl _) ⟨ad174, rfl, v174, hc174, hR174, hx174⟩
                  refine And.intro ?_ ?_
                  · intro L_ wf hX_ hs_ hf_ hd_
                    obtain ⟨v7, e7, r7⟩ := hd_ 7 rfl
                    obtain ⟨ad7, rfl, v7, hc7, hR7, hk7⟩ := r7
                    refine W.step [(174, _)] (Sub.cons (e7 _ rfl) (Sub.refl _)) ?_
                    refine W.fieldAddr (off := 0) (size := 32) (t := 50) (Fld.of (by kernel_rfl)) rfl rfl rfl ?_
                    refine W.nil ?_
                    exact At.step (Ext.refl _) ⟨ad7.add 0, rfl, by rw [add_zero']; have := hc7.take 32; rwa [List.take_append_of_le_length (by simp [hk7]), List.take_of_length_le (by simp [hk7])] at this, hk7⟩
                  refine And.intro ?_ ?_
                  · intro L_ wf hX_ hs_ hf_ hd_
                    obtain ⟨v8, e8, r8⟩ := hd_ 8 rfl
                    obtain ⟨ad8, rfl, hc8, hk8⟩ := r8
                    refine W.step [(175, _)] (Sub.cons (e8 _ rfl) (Sub.refl _)) ?_
                    refine W.loadA rfl hc8 Try.underlying50 rfl (by rw [List.length_map, hk8]; kernel_rfl) rfl ?_
                    refine W.nil ?_
                    exact At.step (Ext.refl _) rfl
                  refine And.intro ?_ ?_
                  · intro L_ wf hX_ hs_ hf_ hd_
                    refine W.step [(12, _)] (Sub.cons (hs_ _ _ rfl) (Sub.refl _)) ?_
                    refine W.move rfl rfl ?_
                    refine W.nil ?_
                    exact At.step (Ext.refl _) rfl
                  refine And.intro ?_ ?_
                  · intro L_ wf hX_ hs_ hf_ hd_
                    refine W.step [(19, _)] (Sub.cons (hs_ _ _ rfl) (Sub.refl _)) ?_
                    refine W.move rfl rfl ?_
                    refine W.nil ?_
                    exact At.step (Ext.refl _) rfl
                  refine And.intro ?_ ?_
                  · intro L_ wf hX_ hs_ hf_ hd_
                    obtain ⟨v10, e10, r10⟩ := hd_ 10 rfl
                    obtain rfl : (.slice aK kl.length cK : Value) = v10 := Eq.symm r10
                    obtain ⟨v11, e11, r11⟩ := hd_ 11 rfl
                    obtain rfl : (.int .i64 (a : Int) : Value) = v11 := Eq.symm r11
                    refine W.step [(177, _), (178, _)] (Sub.cons (e10 _ rfl) (Sub.cons (e11 _ rfl) (Sub.refl _))) ?_
                    refine W.indexE EBatX Try.underlying62 rfl ((hEN.ext rBat hX4).ext rBat hX_) rfl hal rfl ?_
                    rintro ad179 cs179 hc179 hR179 hl179
                    rw [← hy] at hR179
                    obtain ⟨vi179, vl179, rfl, _⟩ := hR179
                    refine W.nil ?_
                    exact At.step (Ext.refl _) ⟨ad179, rfl, vi179, vl179, hc179⟩
                  refine And.intro ?_ ?_
                  · intro L_ wf hX_ hs_ hf_ hd_
                    obtain ⟨v12, e12, r12⟩ := hd_ 12 rfl
                    obtain ⟨ad12, rfl, vi12, vl12, hc12⟩ := r12
                    refine W.step [(179, _)] (Sub.cons (e12 _ rfl) (Sub.refl _)) ?_
                    refine W.fieldAddr (off := 0) (size := 1) (t := 3) (Fld.of (by kernel_rfl)) rfl rfl rfl ?_
                    refine W.nil ?_
                    exact At.step (Ext.refl _) ⟨ad12.add 0, rfl, hc12 0 _ rfl⟩
                  refine And.intro ?_ ?_
                  · intro L_ wf hX_ hs_ hf_ hd_
                    obtain ⟨v13, e13, r13⟩ := hd_ 13 rfl
                    obtain ⟨ad13, rfl, hc13⟩ := r13
                    refine W.step [(180, _)] (Sub.cons (e13 _ rfl) (Sub.refl _)) ?_
                    refine W.load (v := .int .i64 y.round) rfl Try.underlying3 rfl hc13 rfl ?_
                    refine W.nil ?_
                    exact At.step (Ext.refl _) rfl
                  refine And.intro ?_ ?_
                  · intro L_ wf hX_ hs_ hf_ hd_
                    refine W.step [(12, _)] (Sub.cons (hs_ _ _ rfl) (Sub.refl _)) ?_
                    refine W.move rfl rfl ?_
                    refine W.nil ?_
                    exact At.step (Ext.refl _) rfl
                  refine And.intro ?_ ?_
                  · intro L_ wf hX_ hs_ hf_ hd_
                    refine W.step [(19, _)] (Sub.cons (hs_ _ _ rfl) (Sub.refl _)) ?_
                    refine W.move rfl rfl ?_
                    refine W.nil ?_
                    exact At.step (Ext.refl _) rfl
                  refine And.intro ?_ ?_
                  · intro L_ wf hX_ hs_ hf_ hd_
                    obtain ⟨v15, e15, r15⟩ := hd_ 15 rfl
                    obtain rfl : (.slice aK kl.length cK : Value) = v15 := Eq.symm r15
                    obtain ⟨v16, e16, r16⟩ := hd_ 16 rfl
                    obtain rfl : (.int .i64 (a : Int) : Value) = v16 := Eq.symm r16
                    refine W.step [(182, _), (183, _)] (Sub.cons (e15 _ rfl) (Sub.cons (e16 _ rfl) (Sub.refl _))) ?_
                    refine W.indexE EBatX Try.underlying62 rfl ((hEN.ext rBat hX4).ext rBat hX_) rfl hal rfl ?_
                    rintro ad184 cs184 hc184 hR184 hl184
                    rw [← hy] at hR184
                    obtain ⟨vi184, vl184, rfl, _⟩ := hR184
                    refine W.nil ?_
                    exact At.step (Ext.refl _) ⟨ad184, rfl, vi184, vl184, hc184⟩
                  refine And.intro ?_ ?_
                  · intro L_ wf hX_ hs_ hf_ hd_
                    obtain ⟨v17, e17, r17⟩ := hd_ 17 rfl
                    obtain ⟨ad17, rfl, vi17, vl17, hc17⟩ := r17
                    refine W.step [(184, _)] (Sub.cons (e17 _ rfl) (Sub.refl _)) ?_
                    refine W.fieldAddr (off := 0) (size := 1) (t := 3) (Fld.of (by kernel_rfl)) rfl rfl rfl ?_
                    refine W.nil ?_
                    exact At.step (Ext.refl _) ⟨ad17.add 0, rfl, hc17 0 _ rfl⟩
                  refine And.intro ?_ ?_
                  · intro L_ wf hX_ hs_ hf_ hd_
                    obtain ⟨v18, e18, r18⟩ := hd_ 18 rfl
                    obtain ⟨ad18, rfl, hc18⟩ := r18
                    refine W.step [(185, _)] (Sub.cons (e18 _ rfl) (Sub.refl _)) ?_
                    refine W.load (v := .int .i64 y.round) rfl Try.underlying3 rfl hc18 rfl ?_
                    refine W.nil ?_
                    exact At.step (Ext.refl _) rfl
                  refine And.intro ?_ ?_
                  · intro L_ wf hX_ hs_ hf_ hd_
                    obtain ⟨v0, e0, r0⟩ := hd_ 0 rfl
                    obtain rfl : (.pointer (some ⟨g2, 0, none⟩) : Value) = v0 := Eq.symm r0
                    obtain ⟨v9, e9, r9⟩ := hd_ 9 rfl
                    obtain rfl : (.agg (p.1.map byteV).toArray : Value) = v9 := Eq.symm r9
                    obtain ⟨v14, e14, r14⟩ := hd_ 14 rfl
                    obtain rfl : (.int .i64 y.round : Value) = v14 := Eq.symm r14
                    obtain ⟨v19, e19, r19⟩ := hd_ 19 rfl
                    obtain rfl : (.int .i64 y.round : Value) = v19 := Eq.symm r19
                    refine W.step [(167, _), (176, _), (181, _), (186, _)] (Sub.cons (e0 _ rfl) (Sub.cons (e9 _ rfl) (Sub.cons (e14 _ rfl) (Sub.cons (e19 _ rfl) (Sub.refl _))))) ?_
                    refine W.call Try.call20 rfl (((hL121.xt hX4).xt hX_).Fetch (name := p.1) (a := y.round) (c := y.round) hpk hyok.1 hyok.1 (by rw [hl2']; omega)) rfl ?_
                    rintro v187 w187 ⟨a187, c187, rfl, hE187, hX187⟩
                    rw [hl2', ← hgot] at hE187 ⊢
                    refine W.nil ?_
                    exact At.step hX187 ⟨a187, c187, rfl, Els.new rLet hE187 fun _ h _ => h.elim⟩
                  refine And.intro ?_ ?_
                  · intro L_ wf hX_ hs_ hf_ hd_
                    obtain ⟨v20, e20, r20⟩ := hd_ 20 rfl
                    obtain ⟨a20, c20, rfl, hE20⟩ := r20
                    refine W.step [(187, _)] (Sub.cons (e20 _ rfl) (Sub.refl _)) ?_
                    refine W.assign rfl rfl ?_
                    refine W.nil ?_
                    exact At.step (Ext.refl _) ⟨a20, c20, rfl, hE20⟩
                  exact trivial
                · intro L_ wf hX38 hs_ hv_
                  obtain ⟨v21, e21, r21⟩ := hv_ 21 (by decide)
                  obtain ⟨aG, cG, rfl, hEG⟩ := r21
                  refine W.weaken (l' := [(22, _), (12, _), (18, _), (19, _), (20, _), (21, _)]) (Sub.cons (e21 _ rfl) (Sub.cons (hs_ _ _ rfl) (Sub.cons (hs_ _ _ rfl) (Sub.cons (hs_ _ _ rfl) (Sub.cons (hs_ _ _ rfl) (Sub.cons (hs_ _ _ rfl) (Sub.nil))))))) ?_
                  refine W.nil ?_
                  refine At.thenCode ?_
                  refine C.seq ?_
                  refine C.seq ?_
                  refine C.region ?_
                  refine W.assign rfl rfl ?_
                  refine W.nil ?_
                  refine At.thenCode ?_
                  refine C.block ?_
                  refine C.loop (X := Nat × Bool) (fun x_ => [(12, .slice aK kl.length cK), (18, .pointer (some ⟨g2, 0, none⟩)), (19, .int .i64 (a : Int)), (20, .int .i64 (b : Int)), (21, .bool x_.2), (22, .slice aG got.length cG), (23, .int .i64 (x_.1 : Int))]) (fun x_ w5 => x_.1 ≤ got.length ∧ Ext wf w5 ∧ x_.2 = (got.take x_.1).any (fun q_ => decide (q_.2 = p.2))) (fun x_ => got.length - x_.1) (0, false) (Sub.cons (rfl) (Sub.cons (rfl) (Sub.cons (rfl) (Sub.cons (rfl) (Sub.cons (rfl) (Sub.cons (rfl) (Sub.cons (rfl) (Sub.nil)))))))) ?start5 ?_
                  case start5 =>
                    show (0) ≤ got.length ∧ Ext wf _ ∧ (false) = (got.take (0)).any (fun q_ => decide (q_.2 = p.2))
                    exact ⟨by omega, Ext.refl _, by simp⟩
                  rintro ⟨k, fd⟩ w5 hI_
                  replace hI_ : k ≤ got.length ∧ Ext wf w5 ∧ fd = (got.take k).any (fun q_ => decide (q_.2 = p.2)) := hI_
                  obtain ⟨hk, hX5, hfd⟩ := hI_
                  refine C.weaken (l' := [(12, .slice aK kl.length cK), (18, .pointer (some ⟨g2, 0, none⟩)), (19, .int .i64 (a : Int)), (20, .int .i64 (b : Int)), (21, .bool fd), (22, .slice aG got.length cG), (23, .int .i64 (k : Int))]) (Sub.cons (rfl) (Sub.cons (rfl) (Sub.cons (rfl) (Sub.cons (rfl) (Sub.cons (rfl) (Sub.cons (rfl) (Sub.cons (rfl) (Sub.nil)))))))) ?_
                  refine C.seq ?_
                  refine C.seq ?_
                  refine C.region ?_
                  refine W.move rfl rfl ?_
                  refine W.move rfl rfl ?_
                  refine W.lenS rfl Try.underlying31 rfl ?_
                  refine W.lssI rfl rfl rfl ?_
                  refine W.nil ?_
                  refine At.thenCode ?_
                  first | refine C.condD rfl (fun c191 => ?_) (fun c191 => ?_) | refine C.cond rfl (fun c191 => ?_) (fun c191 => ?_)
                  · have hkl : k < got.length := by omega
                    obtain ⟨q, hq⟩ : ∃ q, q = got[k] := ⟨_, rfl⟩
                    have hXg := (hX4.ext hX38).ext hX5
                    refine C.skip ?_
                    refine At.thenCode ?_
                    refine C.seq ?_
                    refine C.block ?_
                    by_cases hyes : fd = true
                    · refine C.regionAny 21 ((fun v w => v = .bool true) :: (fun v w => v = .bool true) :: (fun v w => v = undef) :: (fun v w => v = undef) :: (fun v w => v = undef) :: (fun v w => v = undef) :: (fun v w => v = undef) :: (fun v w => v = undef) :: (fun v w => v = undef) :: (fun v w => v = undef) :: (fun v w => v = undef) :: (fun v w => v = undef) :: (fun v w => v = undef) :: (fun v w => v = undef) :: (fun v w => v = undef) :: (fun v w => v = undef) :: (fun v w => v = undef) :: (fun v w => v = undef) :: (fun v w => v = undef) :: (fun v w => v = .bool true) :: (fun v w => v = .bool true) :: []) [(12, .slice aK kl.length cK), (18, .pointer (some ⟨g2, 0, none⟩)), (19, .int .i64 (a : Int)), (20, .int .i64 (b : Int)), (22, .slice aG got.length cG), (23, .int .i64 (k : Int))] [(21, .bool true)] (Sub.cons (look_eq rfl (by rw [hyes])) (Sub.cons (rfl) (Sub.cons (rfl) (Sub.cons (rfl) (Sub.cons (rfl) (Sub.cons (rfl) (Sub.cons (rfl) (Sub.nil)))))))) (Sub.cons (rfl) (Sub.nil)) (Sub.cons (rfl) (Sub.cons (rfl) (Sub.cons (rfl) (Sub.cons (rfl) (Sub.cons (rfl) (Sub.cons (rfl) (Sub.nil))))))) (by kernel_rfl) rfl rfl rfl (And.intro (fun _ _ _ h _ => h) (And.intro (fun _ _ _ h _ => h) (And.intro (fun _ _ _ h _ => h) (And.intro (fun _ _ _ h _ => h) (And.intro (fun _ _ _ h _ => h) (And.intro (fun _ _ _ h _ => h) (And.intro (fun _ _ _ h _ => h) (And.intro (fun _ _ _ h _ => h) (And.intro (fun _ _ _ h _ => h) (And.intro (fun _ _ _ h _ => h) (And.intro (fun _ _ _ h _ => h) (And.intro (fun _ _ _ h _ => h) (And.intro (fun _ _ _ h _ => h) (And.intro (fun _ _ _ h _ => h) (And.intro (fun _ _ _ h _ => h) (And.intro (fun _ _ _ h _ => h) (And.intro (fun _ _ _ h _ => h) (And.intro (fun _ _ _ h _ => h) (And.intro (fun _ _ _ h _ => h) (And.intro (fun _ _ _ h _ => h) (And.intro (fun _ _ _ h _ => h) (trivial)))))))))))))))))))))) ?_ ?_
                      · refine And.intro ?_ ?_
                        · intro L_ wr hX_ hs_ hf_ hd_
                          refine W.step [(21, _)] (Sub.cons (hf_ rfl _ _ rfl) (Sub.refl _)) ?_
                          refine W.move rfl rfl ?_
                          refine W.nil ?_
                          exact At.step (Ext.refl _) rfl
                        refine And.intro ?_ ?_
                        · intro L_ wr hX_ hs_ hf_ hd_
                          obtain ⟨v0, e0, r0⟩ := hd_ 0 rfl
                          obtain rfl : (.bool true : Value) = v0 := Eq.symm r0
                          refine W.step [(194, _)] (Sub.cons (e0 _ rfl) (Sub.refl _)) ?_
                          refine W.move rfl rfl ?_
                          refine W.nil ?_
                          exact At.step (Ext.refl _) rfl
                        refine And.intro ?_ ?_
                        · intro L_ wr hX_ hs_ hf_ hd_
                          obtain ⟨v1, e1, r1⟩ := hd_ 1 rfl
                          obtain rfl : (.bool true : Value) = v1 := Eq.symm r1
                          refine W.step [(195, _)] (Sub.cons (e1 _ rfl) (Sub.refl _)) ?_
                          refine W.skips rfl rfl rfl rfl rfl rfl ?_
                          refine W.nil ?_
                          exact At.step (Ext.refl _) rfl
                        refine And.intro ?_ ?_
                        · intro L_ wr hX_ hs_ hf_ hd_
                          obtain ⟨v1, e1, r1⟩ := hd_ 1 rfl
                          obtain rfl : (.bool true : Value) = v1 := Eq.symm r1
                          refine W.step [(195, _)] (Sub.cons (e1 _ rfl) (Sub.refl _)) ?_
                          refine W.skips rfl rfl rfl rfl rfl rfl ?_
                          refine W.nil ?_
                          exact At.step (Ext.refl _) rfl
                        refine And.intro ?_ ?_
                        · intro L_ wr hX_ hs_ hf_ hd_
                          obtain ⟨v1, e1, r1⟩ := hd_ 1 rfl
                          obtain rfl : (.bool true : Value) = v1 := Eq.symm r1
                          refine W.step [(195, _)] (Sub.cons (e1 _ rfl) (Sub.refl _)) ?_
                          refine W.skips rfl rfl rfl rfl rfl rfl ?_
                          refine W.nil ?_
                          exact At.step (Ext.refl _) rfl
                        refine And.intro ?_ ?_
                        · intro L_ wr hX_ hs_ hf_ hd_
                          obtain ⟨v1, e1, r1⟩ := hd_ 1 rfl
                          obtain rfl : (.bool true : Value) = v1 := Eq.symm r1
                          refine W.step [(195, _)] (Sub.cons (e1 _ rfl) (Sub.refl _)) ?_
                          refine W.skips rfl rfl rfl rfl rfl rfl ?_
                          refine W.nil ?_
                          exact At.step (Ext.refl _) rfl
                        refine And.intro ?_ ?_
                        · intro L_ wr hX_ hs_ hf_ hd_
                          obtain ⟨v1, e1, r1⟩ := hd_ 1 rfl
                          obtain rfl : (.bool true : Value) = v1 := Eq.symm r1
                          refine W.step [(195, _)] (Sub.cons (e1 _ rfl) (Sub.refl _)) ?_
                          refine W.skips rfl rfl rfl rfl rfl rfl ?_
                          refine W.nil ?_
                          exact At.step (Ext.refl _) rfl
                        refine And.intro ?_ ?_
                        · intro L_ wr hX_ hs_ hf_ hd_
                          obtain ⟨v1, e1, r1⟩ := hd_ 1 rfl
                          obtain rfl : (.bool true : Value) = v1 := Eq.symm r1
                          refine W.step [(195, _)] (Sub.cons (e1 _ rfl) (Sub.refl _)) ?_
                          refine W.skips rfl rfl rfl rfl rfl rfl ?_
                          refine W.nil ?_
                          exact At.step (Ext.refl _) rfl
                        refine And.intro ?_ ?_
                        · intro L_ wr hX_ hs_ hf_ hd_
                          obtain ⟨v1, e1, r1⟩ := hd_ 1 rfl
                          obtain rfl : (.bool true : Value) = v1 := Eq.symm r1
                          refine W.step [(195, _)] (Sub.cons (e1 _ rfl) (Sub.refl _)) ?_
                          refine W.skips rfl rfl rfl rfl rfl rfl ?_
                          refine W.nil ?_
                          exact At.step (Ext.refl _) rfl
                        refine And.intro ?_ ?_
                        · intro L_ wr hX_ hs_ hf_ hd_
                          obtain ⟨v1, e1, r1⟩ := hd_ 1 rfl
                          obtain rfl : (.bool true : Value) = v1 := Eq.symm r1
                          refine W.step [(195, _)] (Sub.cons (e1 _ rfl) (Sub.refl _)) ?_
                          refine W.skips rfl rfl rfl rfl rfl rfl ?_
                          refine W.nil ?_
                          exact At.step (Ext.refl _) rfl
                        refine And.intro ?_ ?_
                        · intro L_ wr hX_ hs_ hf_ hd_
                          obtain ⟨v1, e1, r1⟩ := hd_ 1 rfl
                          obtain rfl : (.bool true : Value) = v1 := Eq.symm r1
                          refine W.step [(195, _)] (Sub.cons (e1 _ rfl) (Sub.refl _)) ?_
                          refine W.skips rfl rfl rfl rfl rfl rfl ?_
                          refine W.nil ?_
                          exact At.step (Ext.refl _) rfl
                        refine And.intro ?_ ?_
                        · intro L_ wr hX_ hs_ hf_ hd_
                          obtain ⟨v1, e1, r1⟩ := hd_ 1 rfl
                          obtain rfl : (.bool true : Value) = v1 := Eq.symm r1
                          refine W.step [(195, _)] (Sub.cons (e1 _ rfl) (Sub.refl _)) ?_
                          refine W.skips rfl rfl rfl rfl rfl rfl ?_
                          refine W.nil ?_
                          exact At.step (Ext.refl _) rfl
                        refine And.intro ?_ ?_
                        · intro L_ wr hX_ hs_ hf_ hd_
                          obtain ⟨v1, e1, r1⟩ := hd_ 1 rfl
                          obtain rfl : (.bool true : Value) = v1 := Eq.symm r1
                          refine W.step [(195, _)] (Sub.cons (e1 _ rfl) (Sub.refl _)) ?_
                          refine W.skips rfl rfl rfl rfl rfl rfl ?_
                          refine W.nil ?_
                          exact At.step (Ext.refl _) rfl
                        refine And.intro ?_ ?_
                        · intro L_ wr hX_ hs_ hf_ hd_
                          obtain ⟨v1, e1, r1⟩ := hd_ 1 rfl
                          obtain rfl : (.bool true : Value) = v1 := Eq.symm r1
                          refine W.step [(195, _)] (Sub.cons (e1 _ rfl) (Sub.refl _)) ?_
                          refine W.skips rfl rfl rfl rfl rfl rfl ?_
                          refine W.nil ?_
                          exact At.step (Ext.refl _) rfl
                        refine And.intro ?_ ?_
                        · intro L_ wr hX_ hs_ hf_ hd_
                          obtain ⟨v1, e1, r1⟩ := hd_ 1 rfl
                          obtain rfl : (.bool true : Value) = v1 := Eq.symm r1
                          refine W.step [(195, _)] (Sub.cons (e1 _ rfl) (Sub.refl _)) ?_
                          refine W.skips rfl rfl rfl rfl rfl rfl ?_
                          refine W.nil ?_
                          exact At.step (Ext.refl _) rfl
                        refine And.intro ?_ ?_
                        · intro L_ wr hX_ hs_ hf_ hd_
                          obtain ⟨v1, e1, r1⟩ := hd_ 1 rfl
                          obtain rfl : (.bool true : Value) = v1 := Eq.symm r1
                          refine W.step [(195, _)] (Sub.cons (e1 _ rfl) (Sub.refl _)) ?_
                          refine W.skips rfl rfl rfl rfl rfl rfl ?_
                          refine W.nil ?_
                          exact At.step (Ext.refl _) rfl
                        refine And.intro ?_ ?_
                        · intro L_ wr hX_ hs_ hf_ hd_
                          obtain ⟨v1, e1, r1⟩ := hd_ 1 rfl
                          obtain rfl : (.bool true : Value) = v1 := Eq.symm r1
                          refine W.step [(195, _)] (Sub.cons (e1 _ rfl) (Sub.refl _)) ?_
                          refine W.skips rfl rfl rfl rfl rfl rfl ?_
                          refine W.nil ?_
                          exact At.step (Ext.refl _) rfl
                        refine And.intro ?_ ?_
                        · intro L_ wr hX_ hs_ hf_ hd_
                          obtain ⟨v1, e1, r1⟩ := hd_ 1 rfl
                          obtain rfl : (.bool true : Value) = v1 := Eq.symm r1
                          refine W.step [(195, _)] (Sub.cons (e1 _ rfl) (Sub.refl _)) ?_
                          refine W.skips rfl rfl rfl rfl rfl rfl ?_
                          refine W.nil ?_
                          exact At.step (Ext.refl _) rfl
                        refine And.intro ?_ ?_
                        · intro L_ wr hX_ hs_ hf_ hd_
                          obtain ⟨v1, e1, r1⟩ := hd_ 1 rfl
                          obtain rfl : (.bool true : Value) = v1 := Eq.symm r1
                          refine W.step [(195, _)] (Sub.cons (e1 _ rfl) (Sub.refl _)) ?_
                          refine W.skips rfl rfl rfl rfl rfl rfl ?_
                          refine W.nil ?_
                          exact At.step (Ext.refl _) rfl
                        refine And.intro ?_ ?_
                        · intro L_ wr hX_ hs_ hf_ hd_
                          obtain ⟨v1, e1, r1⟩ := hd_ 1 rfl
                          obtain rfl : (.bool true : Value) = v1 := Eq.symm r1
                          obtain ⟨v18, e18, r18⟩ := hd_ 18 rfl
                          obtain rfl : (undef : Value) = v18 := Eq.symm r18
                          refine W.step [(195, _), (212, _)] (Sub.cons (e1 _ rfl) (Sub.cons (e18 _ rfl) (Sub.refl _))) ?_
                          refine W.pickT rfl rfl rfl ?_
                          refine W.nil ?_
                          exact At.step (Ext.refl _) rfl
                        refine And.intro ?_ ?_
                        · intro L_ wr hX_ hs_ hf_ hd_
                          obtain ⟨v19, e19, r19⟩ := hd_ 19 rfl
                          obtain rfl : (.bool true : Value) = v19 := Eq.symm r19
                          refine W.step [(213, _)] (Sub.cons (e19 _ rfl) (Sub.refl _)) ?_
                          refine W.assign rfl rfl ?_
                          refine W.nil ?_
                          exact At.step (Ext.refl _) rfl
                        exact trivial
                      · intro L_ wr hX42 hs_ hv_
                        obtain ⟨v20, e20, r20⟩ := hv_ 20 (by decide)
                        obtain rfl : (.bool true : Value) = v20 := Eq.symm r20
                        refine W.weaken (l' := [(21, _), (12, _), (18, _), (19, _), (20, _), (22, _), (23, _)]) (Sub.cons (e20 _ rfl) (Sub.cons (hs_ _ _ rfl) (Sub.cons (hs_ _ _ rfl) (Sub.cons (hs_ _ _ rfl) (Sub.cons (hs_ _ _ rfl) (Sub.cons (hs_ _ _ rfl) (Sub.cons (hs_ _ _ rfl) (Sub.nil)))))))) ?_
                        refine W.nil ?_
                        refine At.blockNormal ?_
                        refine At.thenCode ?_
                        refine C.region ?_
                        refine W.move rfl rfl ?_
                        first | refine W.addI rfl rfl (by omega) rfl ?_ | refine W.addW rfl rfl rfl ?_
                        refine W.assign rfl rfl ?_
                        refine W.nil ?_
                        refine At.thenRound (k + 1, true) (Sub.cons (rfl) (Sub.cons (rfl) (Sub.cons (rfl) (Sub.cons (rfl) (Sub.cons (rfl) (Sub.cons (rfl) (Sub.cons (look_eq rfl (iV (by omega))) (Sub.nil)))))))) (show (k + 1) ≤ got.length ∧ Ext wf _ ∧ (true) = (got.take (k + 1)).any (fun q_ => decide (q_.2 = p.2)) from ?_) (show got.length - (k + 1) < got.length - k from ?_)
                        · refine ⟨by omega, hX5.ext hX42, ?_⟩
                          rw [List.take_succ_eq_append_getElem hkl, List.any_append, ← hfd, hyes, Bool.true_or]
                        · omega
                    · refine C.regionAny 21 ((fun v w => v = .bool false) :: (fun v w => v = .bool false) :: (fun v w => v = .slice aG got.length cG) :: (fun v w => v = .int .i64 (k : Int)) :: (fun v w => ∃ ad, v = .pointer (some ad) ∧ ∃ v1, Cells w ad (q.1.map byteV ++ [v1]) ∧ RByt NoA w [v1] q.2 ∧ q.1.length = 32) :: (fun v w => ∃ ad v1, v = .pointer (some ad) ∧ w.cell? ad = some v1 ∧ RByt NoA w [v1] q.2) :: (fun v w => RByt NoA w [v] q.2) :: (fun v w => v = strV q.2) :: (fun v w => v = .slice aK kl.length cK) :: (fun v w => v = .int .i64 (a : Int)) :: (fun v w => ∃ ad, v = .pointer (some ad) ∧ ∃ vi vl, Cells w ad [.int .i64 y.round, .int .i64 y.chain, vi, vl] ∧ RSl 33 RLet NoA w [vl] y.lets) :: (fun v w => ∃ ad vl, v = .pointer (some ad) ∧ w.cell? ad = some vl ∧ RSl 33 RLet NoA w [vl] y.lets) :: (fun v w => RSl 33 RLet NoA w [v] y.lets) :: (fun v w => v = .int .i64 (b : Int)) :: (fun v w => ∃ ad, v = .pointer (some ad) ∧ ∃ v1, Cells w ad (p.1.map byteV ++ [v1]) ∧ RByt NoA w [v1] p.2 ∧ p.1.length = 32) :: (fun v w => ∃ ad v1, v = .pointer (some ad) ∧ w.cell? ad = some v1 ∧ RByt NoA w [v1] p.2) :: (fun v w => RByt NoA w [v] p.2) :: (fun v w => v = strV p.2) :: (fun v w => v = .bool (decide (q.2 = p.2))) :: (fun v w => v = .bool (decide (q.2 = p.2))) :: (fun v w => v = .bool (decide (q.2 = p.2))) :: []) [(12, .slice aK kl.length cK), (18, .pointer (some ⟨g2, 0, none⟩)), (19, .int .i64 (a : Int)), (20, .int .i64 (b : Int)), (22, .slice aG got.length cG), (23, .int .i64 (k : Int))] [(21, .bool false)] (Sub.cons (look_eq rfl (by rw [show fd = false by simpa using hyes])) (Sub.cons (rfl) (Sub.cons (rfl) (Sub.cons (rfl) (Sub.cons (rfl) (Sub.cons (rfl) (Sub.cons (rfl) (Sub.nil)))))))) (Sub.cons (rfl) (Sub.nil)) (Sub.cons (rfl) (Sub.cons (rfl) (Sub.cons (rfl) (Sub.cons (rfl) (Sub.cons (rfl) (Sub.cons (rfl) (Sub.nil))))))) (by kernel_rfl) rfl rfl rfl (And.intro (fun _ _ _ h _ => h) (And.intro (fun _ _ _ h _ => h) (And.intro (fun _ _ _ h _ => h) (And.intro (fun _ _ _ h _ => h) (And.intro (fun _ _ _ h g => by obtain ⟨ad, e, v1, h1, h2, h3⟩ := h; exact ⟨ad, e, v1, h1.chg g (fun c => c), RdOk.ext rByt h2 g, h3⟩) (And.intro (fun _ _ _ h g => by obtain ⟨ad, v1, e, h1, h2⟩ := h; exact ⟨ad, v1, e, Chg.cell g h1 fun c => c, RdOk.ext rByt h2 g⟩) (And.intro (fun _ _ _ h g => RdOk.ext rByt h g) (And.intro (fun _ _ _ h _ => h) (And.intro (fun _ _ _ h _ => h) (And.intro (fun _ _ _ h _ => h) (And.intro (fun _ _ _ h g => by obtain ⟨ad, e, vi, vl, h1, h2⟩ := h; exact ⟨ad, e, vi, vl, h1.chg g (fun c => c), RdOk.ext (rSl 33 rLet) h2 g⟩) (And.intro (fun _ _ _ h g => by obtain ⟨ad, vl, e, h1, h2⟩ := h; exact ⟨ad, vl, e, Chg.cell g h1 fun c => c, RdOk.ext (rSl 33 rLet) h2 g⟩) (And.intro (fun _ _ _ h g => RdOk.ext (rSl 33 rLet) h g) (And.intro (fun _ _ _ h _ => h) (And.intro (fun _ _ _ h g => by obtain ⟨ad, e, v1, h1, h2, h3⟩ := h; exact ⟨ad, e, v1, h1.chg g (fun c => c), RdOk.ext rByt h2 g, h3⟩) (And.intro (fun _ _ _ h g => by obtain ⟨ad, v1, e, h1, h2⟩ := h; exact ⟨ad, v1, e, Chg.cell g h1 fun c => c, RdOk.ext rByt h2 g⟩) (And.intro (fun _ _ _ h g => RdOk.ext rByt h g) (And.intro (fun _ _ _ h _ => h) (And.intro (fun _ _ _ h _ => h) (And.intro (fun _ _ _ h _ => h) (And.intro (fun _ _ _ h _ => h) (trivial)))))))))))))))))))))) ?_ ?_
                      · refine And.intro ?_ ?_
                        · intro L_ wr hX_ hs_ hf_ hd_
                          refine W.step [(21, _)] (Sub.cons (hf_ rfl _ _ rfl) (Sub.refl _)) ?_
                          refine W.move rfl rfl ?_
                          refine W.nil ?_
                          exact At.step (Ext.refl _) rfl
                        refine And.intro ?_ ?_
                        · intro L_ wr hX_ hs_ hf_ hd_
                          obtain ⟨v0, e0, r0⟩ := hd_ 0 rfl
                          obtain rfl : (.bool false : Value) = v0 := Eq.symm r0
                          refine W.step [(194, _)] (Sub.cons (e0 _ rfl) (Sub.refl _)) ?_
                          refine W.move rfl rfl ?_
                          refine W.nil ?_
                          exact At.step (Ext.refl _) rfl
                        refine And.intro ?_ ?_
                        · intro L_ wr hX_ hs_ hf_ hd_
                          obtain ⟨v1, e1, r1⟩ := hd_ 1 rfl
                          obtain rfl : (.bool false : Value) = v1 := Eq.symm r1
                          refine W.step [(22, _), (195, _)] (Sub.cons (hs_ _ _ rfl) (Sub.cons (e1 _ rfl) (Sub.refl _))) ?_
                          refine W.wants rfl rfl rfl rfl ?_
                          refine W.move rfl rfl ?_
                          refine W.nil ?_
                          exact At.step (Ext.refl _) rfl
                        refine And.intro ?_ ?_
                        · intro L_ wr hX_ hs_ hf_ hd_
                          obtain ⟨v1, e1, r1⟩ := hd_ 1 rfl
                          obtain rfl : (.bool false : Value) = v1 := Eq.symm r1
                          refine W.step [(23, _), (195, _)] (Sub.cons (hs_ _ _ rfl) (Sub.cons (e1 _ rfl) (Sub.refl _))) ?_
                          refine W.wants rfl rfl rfl rfl ?_
                          refine W.move rfl rfl ?_
                          refine W.nil ?_
                          exact At.step (Ext.refl _) rfl
                        refine And.intro ?_ ?_
                        · intro L_ wr hX_ hs_ hf_ hd_
                          obtain ⟨v2, e2, r2⟩ := hd_ 2 rfl
                          obtain rfl : (.slice aG got.length cG : Value) = v2 := Eq.symm r2
                          obtain ⟨v3, e3, r3⟩ := hd_ 3 rfl
                          obtain rfl : (.int .i64 (k : Int) : Value) = v3 := Eq.symm r3
                          obtain ⟨v1, e1, r1⟩ := hd_ 1 rfl
                          obtain rfl : (.bool false : Value) = v1 := Eq.symm r1
                          refine W.step [(196, _), (197, _), (195, _)] (Sub.cons (e2 _ rfl) (Sub.cons (e3 _ rfl) (Sub.cons (e1 _ rfl) (Sub.refl _)))) ?_
                          refine W.wants rfl rfl rfl rfl ?_
                          refine W.indexE ELet Try.underlying31 rfl ((hEG.ext rLet hX5).ext rLet hX_) rfl hkl rfl ?_
                          rintro ad198 cs198 hc198 ⟨v198, rfl, hR198, hx198⟩ _
                          rw [← hq] at hR198 hx198 hc198
                          refine W.nil ?_
                          exact At.step (Ext.refl _) ⟨ad198, rfl, v198, hc198, hR198, hx198⟩
                        refine And.intro ?_ ?_
                        · intro L_ wr hX_ hs_ hf_ hd_
                          obtain ⟨v4, e4, r4⟩ := hd_ 4 rfl
                          obtain ⟨ad4, rfl, v4, hc4, hR4, hk4⟩ := r4
                          obtain ⟨v1, e1, r1⟩ := hd_ 1 rfl
                          obtain rfl : (.bool false : Value) = v1 := Eq.symm r1
                          refine W.step [(198, _), (195, _)] (Sub.cons (e4 _ rfl) (Sub.cons (e1 _ rfl) (Sub.refl _))) ?_
                          refine W.wants rfl rfl rfl rfl ?_
                          refine W.fieldAddr (off := 32) (size := 1) (t := 51) (Fld.of (by kernel_rfl)) rfl rfl rfl ?_
                          refine W.nil ?_
                          exact At.step (Ext.refl _) ⟨ad4.add 32, v4, rfl, hc4 32 v4 (by rw [List.getElem?_append_right (by simp [hk4]), List.length_map, hk4]; rfl), hR4⟩
                        refine And.intro ?_ ?_
                        · intro L_ wr hX_ hs_ hf_ hd_
                          obtain ⟨v5, e5, r5⟩ := hd_ 5 rfl
                          obtain ⟨ad5, v5, rfl, hc5, hR5⟩ := r5
                          obtain ⟨v1, e1, r1⟩ := hd_ 1 rfl
                          obtain rfl : (.bool false : Value) = v1 := Eq.symm r1
                          refine W.step [(199, _), (195, _)] (Sub.cons (e5 _ rfl) (Sub.cons (e1 _ rfl) (Sub.refl _))) ?_
                          refine W.wants rfl rfl rfl rfl ?_
                          refine W.load rfl Try.underlying51 rfl hc5 rfl ?_
                          refine W.nil ?_
                          exact At.step (Ext.refl _) hR5
                        refine And.intro ?_ ?_
                        · intro L_ wr hX_ hs_ hf_ hd_
                          obtain ⟨v6, e6, r6⟩ := hd_ 6 rfl
                          obtain ⟨a6, c6, rfl, hs6, _⟩ := RByt.form r6
                          obtain ⟨v1, e1, r1⟩ := hd_ 1 rfl
                          obtain rfl : (.bool false : Value) = v1 := Eq.symm r1
                          refine W.step [(200, _), (195, _)] (Sub.cons (e6 _ rfl) (Sub.cons (e1 _ rfl) (Sub.refl _))) ?_
                          refine W.wants rfl rfl rfl rfl ?_
                          refine W.bytesStr Try.underlying51 Try.underlying5 Try.underlying9 rfl hs6 rfl ?_
                          refine W.nil ?_
                          exact At.step (Ext.refl _) rfl
                        refine And.intro ?_ ?_
                        · intro L_ wr hX_ hs_ hf_ hd_
                          obtain ⟨v1, e1, r1⟩ := hd_ 1 rfl
                          obtain rfl : (.bool false : Value) = v1 := Eq.symm r1
                          refine W.step [(12, _), (195, _)] (Sub.cons (hs_ _ _ rfl) (Sub.cons (e1 _ rfl) (Sub.refl _))) ?_
                          refine W.wants rfl rfl rfl rfl ?_
                          refine W.move rfl rfl ?_
                          refine W.nil ?_
                          exact At.step (Ext.refl _) rfl
                        refine And.intro ?_ ?_
                        · intro L_ wr hX_ hs_ hf_ hd_
                          obtain ⟨v1, e1, r1⟩ := hd_ 1 rfl
                          obtain rfl : (.bool false : Value) = v1 := Eq.symm r1
                          refine W.step [(19, _), (195, _)] (Sub.cons (hs_ _ _ rfl) (Sub.cons (e1 _ rfl) (Sub.refl _))) ?_
                          refine W.wants rfl rfl rfl rfl ?_
                          refine W.move rfl rfl ?_
                          refine W.nil ?_
                          exact At.step (Ext.refl _) rfl
                        refine And.intro ?_ ?_
                        · intro L_ wr hX_ hs_ hf_ hd_
                          obtain ⟨v8, e8, r8⟩ := hd_ 8 rfl
                          obtain rfl : (.slice aK kl.length cK : Value) = v8 := Eq.symm r8
                          obtain ⟨v9, e9, r9⟩ := hd_ 9 rfl
                          obtain rfl : (.int .i64 (a : Int) : Value) = v9 := Eq.symm r9
                          obtain ⟨v1, e1, r1⟩ := hd_ 1 rfl
                          obtain rfl : (.bool false : Value) = v1 := Eq.symm r1
                          refine W.step [(202, _), (203, _), (195, _)] (Sub.cons (e8 _ rfl) (Sub.cons (e9 _ rfl) (Sub.cons (e1 _ rfl) (Sub.refl _)))) ?_
                          refine W.wants rfl rfl rfl rfl ?_
                          refine W.indexE EBatX Try.underlying62 rfl ((hEN.ext rBat hXg).ext rBat hX_) rfl hal rfl ?_
                          rintro ad204 cs204 hc204 hR204 hl204
                          rw [← hy] at hR204
                          obtain ⟨vi204, vl204, rfl, _, hLt204, _⟩ := hR204
                          refine W.nil ?_
                          exact At.step (Ext.refl _) ⟨ad204, rfl, vi204, vl204, hc204, hLt204⟩
                        refine And.intro ?_ ?_
                        · intro L_ wr hX_ hs_ hf_ hd_
                          obtain ⟨v10, e10, r10⟩ := hd_ 10 rfl
                          obtain ⟨ad10, rfl, vi10, vl10, hc10, hq10⟩ := r10
                          obtain ⟨v1, e1, r1⟩ := hd_ 1 rfl
                          obtain rfl : (.bool false : Value) = v1 := Eq.symm r1
                          refine W.step [(204, _), (195, _)] (Sub.cons (e10 _ rfl) (Sub.cons (e1 _ rfl) (Sub.refl _))) ?_
                          refine W.wants rfl rfl rfl rfl ?_
                          refine W.fieldAddr (off := 3) (size := 1) (t := 31) (Fld.of (by kernel_rfl)) rfl rfl rfl ?_
                          refine W.nil ?_
                          exact At.step (Ext.refl _) ⟨ad10.add 3, vl10, rfl, hc10 3 _ rfl, hq10⟩
                        refine And.intro ?_ ?_
                        · intro L_ wr hX_ hs_ hf_ hd_
                          obtain ⟨v11, e11, r11⟩ := hd_ 11 rfl
                          obtain ⟨ad11, vl11, rfl, hc11, hq11⟩ := r11
                          obtain ⟨v1, e1, r1⟩ := hd_ 1 rfl
                          obtain rfl : (.bool false : Value) = v1 := Eq.symm r1
                          refine W.step [(205, _), (195, _)] (Sub.cons (e11 _ rfl) (Sub.cons (e1 _ rfl) (Sub.refl _))) ?_
                          refine W.wants rfl rfl rfl rfl ?_
                          refine W.load rfl Try.underlying31 rfl hc11 rfl ?_
                          refine W.nil ?_
                          exact At.step (Ext.refl _) hq11
                        refine And.intro ?_ ?_
                        · intro L_ wr hX_ hs_ hf_ hd_
                          obtain ⟨v1, e1, r1⟩ := hd_ 1 rfl
                          obtain rfl : (.bool false : Value) = v1 := Eq.symm r1
                          refine W.step [(20, _), (195, _)] (Sub.cons (hs_ _ _ rfl) (Sub.cons (e1 _ rfl) (Sub.refl _))) ?_
                          refine W.wants rfl rfl rfl rfl ?_
                          refine W.move rfl rfl ?_
                          refine W.nil ?_
                          exact At.step (Ext.refl _) rfl
                        refine And.intro ?_ ?_
                        · intro L_ wr hX_ hs_ hf_ hd_
                          obtain ⟨v12, e12, r12⟩ := hd_ 12 rfl
                          obtain ⟨a12, c12, rfl, hE12⟩ := RSl.form r12
                          obtain ⟨v13, e13, r13⟩ := hd_ 13 rfl
                          obtain rfl : (.int .i64 (b : Int) : Value) = v13 := Eq.symm r13
                          obtain ⟨v1, e1, r1⟩ := hd_ 1 rfl
                          obtain rfl : (.bool false : Value) = v1 := Eq.symm r1
                          refine W.step [(206, _), (207, _), (195, _)] (Sub.cons (e12 _ rfl) (Sub.cons (e13 _ rfl) (Sub.cons (e1 _ rfl) (Sub.refl _)))) ?_
                          refine W.wants rfl rfl rfl rfl ?_
                          refine W.indexE ELet Try.underlying31 rfl hE12 rfl hbl rfl ?_
                          rintro ad208 cs208 hc208 ⟨v208, rfl, hR208, hx208⟩ _
                          rw [← hp] at hR208 hx208 hc208
                          refine W.nil ?_
                          exact At.step (Ext.refl _) ⟨ad208, rfl, v208, hc208, hR208, hx208⟩
                        refine And.intro ?_ ?_
                        · intro L_ wr hX_ hs_ hf_ hd_
                          obtain ⟨v14, e14, r14⟩ := hd_ 14 rfl
                          obtain ⟨ad14, rfl, v14, hc14, hR14, hk14⟩ := r14
                          obtain ⟨v1, e1, r1⟩ := hd_ 1 rfl
                          obtain rfl : (.bool false : Value) = v1 := Eq.symm r1
                          refine W.step [(208, _), (195, _)] (Sub.cons (e14 _ rfl) (Sub.cons (e1 _ rfl) (Sub.refl _))) ?_
                          refine W.wants rfl rfl rfl rfl ?_
                          refine W.fieldAddr (off := 32) (size := 1) (t := 51) (Fld.of (by kernel_rfl)) rfl rfl rfl ?_
                          refine W.nil ?_
                          exact At.step (Ext.refl _) ⟨ad14.add 32, v14, rfl, hc14 32 v14 (by rw [List.getElem?_append_right (by simp [hk14]), List.length_map, hk14]; rfl), hR14⟩
                        refine And.intro ?_ ?_
                        · intro L_ wr hX_ hs_ hf_ hd_
                          obtain ⟨v15, e15, r15⟩ := hd_ 15 rfl
                          obtain ⟨ad15, v15, rfl, hc15, hR15⟩ := r15
                          obtain ⟨v1, e1, r1⟩ := hd_ 1 rfl
                          obtain rfl : (.bool false : Value) = v1 := Eq.symm r1
                          refine W.step [(209, _), (195, _)] (Sub.cons (e15 _ rfl) (Sub.cons (e1 _ rfl) (Sub.refl _))) ?_
                          refine W.wants rfl rfl rfl rfl ?_
                          refine W.load rfl Try.underlying51 rfl hc15 rfl ?_
                          refine W.nil ?_
                          exact At.step (Ext.refl _) hR15
                        refine And.intro ?_ ?_
                        · intro L_ wr hX_ hs_ hf_ hd_
                          obtain ⟨v16, e16, r16⟩ := hd_ 16 rfl
                          obtain ⟨a16, c16, rfl, hs16, _⟩ := RByt.form r16
                          obtain ⟨v1, e1, r1⟩ := hd_ 1 rfl
                          obtain rfl : (.bool false : Value) = v1 := Eq.symm r1
                          refine W.step [(210, _), (195, _)] (Sub.cons (e16 _ rfl) (Sub.cons (e1 _ rfl) (Sub.refl _))) ?_
                          refine W.wants rfl rfl rfl rfl ?_
                          refine W.bytesStr Try.underlying51 Try.underlying5 Try.underlying9 rfl hs16 rfl ?_
                          refine W.nil ?_
                          exact At.step (Ext.refl _) rfl
                        refine And.intro ?_ ?_
                        · intro L_ wr hX_ hs_ hf_ hd_
                          obtain ⟨v7, e7, r7⟩ := hd_ 7 rfl
                          obtain rfl : (strV q.2 : Value) = v7 := Eq.symm r7
                          obtain ⟨v17, e17, r17⟩ := hd_ 17 rfl
                          obtain rfl : (strV p.2 : Value) = v17 := Eq.symm r17
                          obtain ⟨v1, e1, r1⟩ := hd_ 1 rfl
                          obtain rfl : (.bool false : Value) = v1 := Eq.symm r1
                          refine W.step [(201, _), (211, _), (195, _)] (Sub.cons (e7 _ rfl) (Sub.cons (e17 _ rfl) (Sub.cons (e1 _ rfl) (Sub.refl _)))) ?_
                          refine W.wants rfl rfl rfl rfl ?_
                          refine W.eqlStr rfl rfl rfl ?_
                          refine W.nil ?_
                          exact At.step (Ext.refl _) rfl
                        refine And.intro ?_ ?_
                        · intro L_ wr hX_ hs_ hf_ hd_
                          obtain ⟨v1, e1, r1⟩ := hd_ 1 rfl
                          obtain rfl : (.bool false : Value) = v1 := Eq.symm r1
                          obtain ⟨v18, e18, r18⟩ := hd_ 18 rfl
                          obtain rfl : (.bool (decide (q.2 = p.2)) : Value) = v18 := Eq.symm r18
                          refine W.step [(195, _), (212, _)] (Sub.cons (e1 _ rfl) (Sub.cons (e18 _ rfl) (Sub.refl _))) ?_
                          refine W.pickF rfl rfl rfl ?_
                          refine W.nil ?_
                          exact At.step (Ext.refl _) rfl
                        refine And.intro ?_ ?_
                        · intro L_ wr hX_ hs_ hf_ hd_
                          obtain ⟨v19, e19, r19⟩ := hd_ 19 rfl
                          obtain rfl : (.bool (decide (q.2 = p.2)) : Value) = v19 := Eq.symm r19
                          refine W.step [(213, _)] (Sub.cons (e19 _ rfl) (Sub.refl _)) ?_
                          refine W.assign rfl rfl ?_
                          refine W.nil ?_
                          exact At.step (Ext.refl _) rfl
                        exact trivial
                      · intro L_ wr hX42 hs_ hv_
                        obtain ⟨v20, e20, r20⟩ := hv_ 20 (by decide)
                        obtain rfl : (.bool (decide (q.2 = p.2)) : Value) = v20 := Eq.symm r20
                        refine W.weaken (l' := [(21, _), (12, _), (18, _), (19, _), (20, _), (22, _), (23, _)]) (Sub.cons (e20 _ rfl) (Sub.cons (hs_ _ _ rfl) (Sub.cons (hs_ _ _ rfl) (Sub.cons (hs_ _ _ rfl) (Sub.cons (hs_ _ _ rfl) (Sub.cons (hs_ _ _ rfl) (Sub.cons (hs_ _ _ rfl) (Sub.nil)))))))) ?_
                        refine W.nil ?_
                        refine At.blockNormal ?_
                        refine At.thenCode ?_
                        refine C.region ?_
                        refine W.move rfl rfl ?_
                        first | refine W.addI rfl rfl (by omega) rfl ?_ | refine W.addW rfl rfl rfl ?_
                        refine W.assign rfl rfl ?_
                        refine W.nil ?_
                        refine At.thenRound (k + 1, decide (q.2 = p.2)) (Sub.cons (rfl) (Sub.cons (rfl) (Sub.cons (rfl) (Sub.cons (rfl) (Sub.cons (rfl) (Sub.cons (rfl) (Sub.cons (look_eq rfl (iV (by omega))) (Sub.nil)))))))) (show (k + 1) ≤ got.length ∧ Ext wf _ ∧ (decide (q.2 = p.2)) = (got.take (k + 1)).any (fun q_ => decide (q_.2 = p.2)) from ?_) (show got.length - (k + 1) < got.length - k from ?_)
                        · refine ⟨by omega, hX5.ext hX42, ?_⟩
                          rw [List.take_succ_eq_append_getElem hkl, List.any_append, ← hfd, show fd = false by simpa using hyes, ← hq, Bool.false_or]
                          simp
                        · omega
                  · have hk' : k = got.length := by omega
                    subst hk'
                    rw [List.take_length] at hfd
                    have hfd1 : fd = true := by
                      obtain ⟨z, hz, h2⟩ := fetch_mem (hsub y hym) hpm
                      rw [← hgot] at hz
                      rw [hfd]
                      exact List.any_eq_true.2 ⟨z, hz, decide_eq_true h2⟩
                    subst hfd1
                    have hXg := (hX4.ext hX38).ext hX5
                    refine C.exit ?_
                    refine At.thenExit ?_
                    refine At.thenExit ?_
                    refine At.blockSelf ?_
                    refine At.thenCode ?_
                    refine C.seq ?_
                    refine C.region ?_
                    refine W.move rfl rfl ?_
                    first | refine W.notD rfl rfl ?_ | refine W.notB rfl rfl ?_
                    refine W.eqv (v' := .bool false) (rfl) ?_
                    refine W.nil ?_
                    refine At.thenCode ?_
                    refine C.condF rfl ?_
                    refine C.skip ?_
                    refine At.blockNormal ?_
                    refine At.thenCode ?_
                    refine C.region ?_
                    refine W.move rfl rfl ?_
                    first | refine W.addI rfl rfl (by omega) rfl ?_ | refine W.addW rfl rfl rfl ?_
                    refine W.assign rfl rfl ?_
                    refine W.nil ?_
                    refine At.thenRound (b + 1) (Sub.cons (rfl) (Sub.cons (rfl) (Sub.cons (rfl) (Sub.cons (look_eq rfl (iV (by omega))) (Sub.nil))))) (show (b + 1) ≤ y.lets.length ∧ Ext w121 _ from ?_) (show y.lets.length - (b + 1) < y.lets.length - b from ?_)
                    · exact ⟨by omega, hXg⟩
                    · omega
              · refine C.exit ?_
                refine At.thenExit ?_
                refine At.thenExit ?_
                refine At.blockSelf ?_
                refine At.blockNormal ?_
                refine At.thenCode ?_
                refine C.region ?_
                refine W.move rfl rfl ?_
                first | refine W.addI rfl rfl (by omega) rfl ?_ | refine W.addW rfl rfl rfl ?_
                refine W.assign rfl rfl ?_
                refine W.nil ?_
                refine At.thenRound (a + 1) (Sub.cons (rfl) (Sub.cons (rfl) (Sub.cons (look_eq rfl (iV (by omega))) (Sub.nil)))) (show (a + 1) ≤ kl.length ∧ Ext w121 _ from ?_) (show kl.length - (a + 1) < kl.length - a from ?_)
                · exact ⟨by omega, hX4⟩
                · omega
          · refine C.exit ?_
            refine At.thenExit ?_
            refine At.thenExit ?_
            refine At.blockSelf ?_
            refine At.thenCode ?_
            refine C.seq ?_
            refine C.region ?_
            refine W.assign rfl rfl ?_
            refine W.nil ?_
            refine At.thenCode ?_
            refine C.ret ?_
            refine At.ret1 Try.results7 rfl ?_
            first
            | exact ⟨rfl, Ext.below (hX24.ext (hL121.ext.ext hX3))⟩
            | exact ⟨rfl, Ext.below (hX24.ext (hL1.ext.ext hX59))⟩
            | exact ⟨rfl, Ext.below hX24⟩
end Go.Proofs.Ythiijdbiikljpaa.Law23
