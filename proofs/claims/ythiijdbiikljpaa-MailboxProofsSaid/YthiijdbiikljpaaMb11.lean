/- Package mailbox: opening. -/
import Derived.Test.YthiijdbiikljpaaMb10
namespace Go.Proofs.Ythiijdbiikljpaa.Mbx
open Go Go.RowKit Go.Proofs.Ythiijdbiikljpaa.KW Go.Proofs.Ythiijdbiikljpaa.Words Go.Proofs.Ythiijdbiikljpaa.Sha Go.Proofs.Ythiijdbiikljpaa.RSha Go.Proofs.Ythiijdbiikljpaa.Grp Go.Proofs.Ythiijdbiikljpaa.Cod Go.Proofs.Ythiijdbiikljpaa.Disk
set_option linter.unusedVariables false
set_option linter.unusedSimpArgs false
set_option maxRecDepth 100000
theorem againS_len {s s' : Bag} {x : List UInt8} (h : againS s x = some s') : s'.l.length ≤ s.l.length + 1 := by
  cases x with
  | nil => cases h
  | cons t y =>
    by_cases h1 : t = 1
    · subst h1
      rw [again_1] at h
      split at h
      · obtain rfl := Option.some.inj h
        simp [takeS]
      · cases h
    · by_cases h2 : t = 2
      · subst h2
        rw [again_2] at h
        split at h
        · obtain rfl := Option.some.inj h
          unfold goneS
          split
          · omega
          · have := List.length_filter_le (fun x : BatD => decide ((beNat y : Int) ≤ x.round)) s.l
            show (goneL s.l (beNat y)).length ≤ _
            unfold goneL
            omega
        · cases h
      · rw [again_x s h1 h2] at h; cases h
/-- What opening leaves. -/
structure Opened (w : World) (Fd : Nat → Prop) (dg : Nat) (rv : Int) (B : Box) (g : Nat) (w' : World) : Prop where
  out : ∃ F' Fd' : Nat → Prop, St w' F' g dg B.s B.owed ∧ Dk w' Fd' dg rv B.D ∧ (∀ k, F' k → w.heap.size ≤ k) ∧ (∀ k, F' k → ¬ Fd' k) ∧ (∀ k, Fd' k → Fd k ∨ w.heap.size ≤ k)
  chg : Chg Fd w w'
theorem Opened.of {w w' : World} {Fd : Nat → Prop} {dg : Nat} {rv : Int} {B B' : Box} {g : Nat} {F' Fd' : Nat → Prop} (hb : B' = B) (h1 : St w' F' g dg B.s B.owed) (h2 : Dk w' Fd' dg rv B.D) (h3 : ∀ k, F' k → w.heap.size ≤ k) (h4 : ∀ k, F' k → ¬ Fd' k) (h5 : ∀ k, Fd' k → Fd k ∨ w.heap.size ≤ k) (hc : Chg Fd w w') : Opened w Fd dg rv B' g w' := by
  rw [hb]; exact ⟨⟨F', Fd', h1, h2, h3, h4, h5⟩, hc⟩
theorem St.empty {w : World} {g dg mg lg : Nat} (h1 : Bk w g (stC dg mg lg 0 none)) (h2 : Mp Try.prog 83 w mg [] 0) (h3 : Mp Try.prog 50 w lg [] 0) (h4 : g ≠ mg ∧ g ≠ lg ∧ mg ≠ lg) : St w (Zof g mg lg) g dg ⟨[], 0⟩ none := by
  have hlt : ∀ k, Zof g mg lg k → k < w.heap.size := by
    rintro k (rfl | rfl | rfl)
    · exact h1.lt
    · exact h2.lt
    · exact h3.lt
  refine ⟨⟨mg, lg, fun _ => True, [], 0, [], 0, h1, ⟨h2, rfl⟩, ⟨h3, fun e he => by simp at he, fun name _ h => absurd rfl h, fun e he => by simp at he, by simp⟩, ⟨fun k hk => hk, fun _ _ => trivial, fun _ _ => trivial, hlt⟩, h4⟩, .inl rfl, hlt, ⟨fun x hx => by simp at hx, Nat.zero_le _, fun n hn => by cases hn⟩⟩
theorem Open_ok (Fd : Nat → Prop) (dg : Nat) (rv : Int) (D : Dsk) (w : World) (hD : Dk w Fd dg rv D) (hl : D.bs.length ≤ 1000000) :
    Ct Try.prog 10 #[.pointer (some ⟨dg, 0, none⟩)] w (fun v w' => ∃ g, v = .pointer (some ⟨g, 0, none⟩) ∧ Opened w Fd dg rv (openB D) g w') := by
  refine Ct.enter [(0, .pointer (some ⟨dg, 0, none⟩))] Try.func10 rfl rfl rfl rfl ?_
  have hdlt := hD.lt
  refine C.seq ?_
  refine C.region ?_
  refine W.assign rfl rfl ?_
  refine W.nil ?_
  refine At.thenCode ?_
  refine C.seq ?_
  refine C.region ?_
  refine W.move rfl rfl ?_
  refine W.makeMap (kt := 83) rfl ?_
  intro mg w1 hmg hX1 hM1
  refine W.makeMap (kt := 50) rfl ?_
  intro lg w2 hlg hX2 hM2
  refine W.buildS (fs := _) [(0, 1), (1, 1), (2, 1), (3, 1), (4, 1)] (stC dg mg lg 0 none) [(.pointer none), (.map none), (.map none), (.int .i64 0), (.int .i64 0)] Try.underlying71 (by kernel_rfl) (by kernel_rfl) rfl rfl rfl ?_
  refine W.box (stC dg mg lg 0 none) rfl rfl rfl ?_
  intro g w3 hg hX3 hB3
  have hml := hM1.lt
  have hll := hM2.lt
  have hS3 : St w3 (Zof g mg lg) g dg ⟨[], 0⟩ none := St.empty hB3 ((hM1.ext hX2).ext hX3) (hM2.ext hX3) ⟨by have := hX2.size; omega, by omega, by omega⟩
  have hX3w := (hX1.ext hX2).ext hX3
  have hD3 := hD.ext hX3w
  have hs1 := hX1.size
  have hs2 := hX2.size
  have hs3 := hX3.size
  have hZn : ∀ k, Zof g mg lg k → w.heap.size ≤ k := by
    rintro k (rfl | rfl | rfl) <;> omega
  have hZd : ∀ k, Fd k → ¬ Zof g mg lg k := fun k hk hz => by have := hdlt k hk; have := hZn k hz; omega
  refine W.assign rfl rfl ?_
  refine W.nil ?_
  refine At.thenCode ?_
  refine C.seq ?_
  refine C.seq ?_
  refine C.region ?_
  refine W.move rfl rfl ?_
  refine W.eqlPtr rfl rfl rfl rfl ?_
  refine W.nil ?_
  refine At.thenCode ?_
  refine C.condF rfl ?_
  refine C.skip ?_
  refine At.thenCode ?_
  refine C.seq ?_
  refine C.region ?_
  refine W.move rfl rfl ?_
  refine W.call Try.call22 rfl (Disk.Bytes_ok Fd dg rv D _ hD3) rfl ?_
  rintro v17 w17 ⟨⟨a17, c17, rfl, hS17, hb17⟩, hX17⟩
  have hs17 := hX17.size
  have hSt17 := hS3.ext hX17
  have hD17 := hD3.ext hX17
  have hX17w := hX3w.ext hX17
  have hbZ : ∀ ad, a17 = some ad → D.bs.map byteV ≠ [] → ¬ Zof g mg lg ad.block := fun ad e _ hz => by have := hb17 ad e; have := hS3.lt _ hz; omega
  refine W.assign rfl rfl ?_
  refine W.nil ?_
  refine At.thenCode ?_
  refine C.seq ?_
  refine C.region ?_
  refine W.assign rfl rfl ?_
  refine W.nil ?_
  refine At.thenCode ?_
  refine C.seq ?_
  refine C.seq ?_
  refine C.region ?_
  refine W.move rfl rfl ?_
  refine W.move rfl rfl ?_
  refine W.call Try.call27 rfl (Mbx.next_ok a17 c17 D.bs 0 _ hS17 hl (Nat.zero_le _)) rfl ?_
  rintro v21 w21 ⟨⟨v1, rfl, hx21⟩, hX21⟩
  have hs21 := hX21.size
  refine W.move rfl rfl ?_
  refine W.extract rfl rfl rfl ?_
  refine W.extract rfl rfl rfl ?_
  refine W.assign rfl rfl ?_
  refine W.assign rfl rfl ?_
  refine W.nil ?_
  refine At.thenCode ?_
  refine C.block ?_
  refine C.loop (X := Nat × Bag × Value) (fun x_ => [(0, .pointer (some ⟨dg, 0, none⟩)), (3, .pointer (some ⟨g, 0, none⟩)), (4, .slice a17 D.bs.length c17), (5, .int .i64 (x_.1 : Int)), (6, x_.2.2), (7, .bool (rec1 (D.bs.drop x_.1)).isSome)]) (fun x_ wl => x_.1 ≤ D.bs.length ∧ x_.2.1.l.length ≤ x_.1 ∧ scanS ⟨[], 0⟩ D.bs = ((scanS x_.2.1 (D.bs.drop x_.1)).1, x_.1 + (scanS x_.2.1 (D.bs.drop x_.1)).2) ∧ (∀ zz, rec1 (D.bs.drop x_.1) = some zz → ∃ ao c, x_.2.2 = .slice ao zz.length c ∧ Bs wl ao c zz ∧ ∀ ad, ao = some ad → ∃ a, a17 = some a ∧ ad.block = a.block) ∧ Chg (Zof g mg lg) w17 wl ∧ ∃ F1 : Nat → Prop, St wl F1 g dg x_.2.1 none ∧ (∀ k, F1 k → Zof g mg lg k ∨ w17.heap.size ≤ k)) (fun x_ => D.bs.length - x_.1) (0, (⟨[], 0⟩ : Bag), v1) (Sub.cons (rfl) (Sub.cons (rfl) (Sub.cons (rfl) (Sub.cons (rfl) (Sub.cons (rfl) (Sub.cons (rfl) (Sub.nil))))))) ?start1 ?_
  case start1 =>
    show (0) ≤ D.bs.length ∧ ((⟨[], 0⟩ : Bag)).l.length ≤ (0) ∧ scanS ⟨[], 0⟩ D.bs = ((scanS ((⟨[], 0⟩ : Bag)) (D.bs.drop (0))).1, (0) + (scanS ((⟨[], 0⟩ : Bag)) (D.bs.drop (0))).2) ∧ (∀ zz, rec1 (D.bs.drop (0)) = some zz → ∃ ao c, (v1) = .slice ao zz.length c ∧ Bs _ ao c zz ∧ ∀ ad, ao = some ad → ∃ a, a17 = some a ∧ ad.block = a.block) ∧ Chg (Zof g mg lg) w17 _ ∧ ∃ F1 : Nat → Prop, St _ F1 g dg ((⟨[], 0⟩ : Bag)) none ∧ (∀ k, F1 k → Zof g mg lg k ∨ w17.heap.size ≤ k)
    exact ⟨by omega, Nat.le_refl _, by rw [List.drop_zero, Nat.zero_add], hx21, hX21.mono (fun _ c => c.elim), Zof g mg lg, hSt17.ext hX21, fun k hk => .inl hk⟩
  rintro ⟨at_, sb, vx⟩ wl hI_
  replace hI_ : at_ ≤ D.bs.length ∧ sb.l.length ≤ at_ ∧ scanS ⟨[], 0⟩ D.bs = ((scanS sb (D.bs.drop at_)).1, at_ + (scanS sb (D.bs.drop at_)).2) ∧ (∀ zz, rec1 (D.bs.drop at_) = some zz → ∃ ao c, vx = .slice ao zz.length c ∧ Bs wl ao c zz ∧ ∀ ad, ao = some ad → ∃ a, a17 = some a ∧ ad.block = a.block) ∧ Chg (Zof g mg lg) w17 wl ∧ ∃ F1 : Nat → Prop, St wl F1 g dg sb none ∧ (∀ k, F1 k → Zof g mg lg k ∨ w17.heap.size ≤ k) := hI_
  obtain ⟨hat, hln, hscan, hvx, hCl, F1, hSt1, hF1⟩ := hI_
  refine C.weaken (l' := [(0, .pointer (some ⟨dg, 0, none⟩)), (3, .pointer (some ⟨g, 0, none⟩)), (4, .slice a17 D.bs.length c17), (5, .int .i64 (at_ : Int)), (6, vx), (7, .bool (rec1 (D.bs.drop at_)).isSome)]) (Sub.cons (rfl) (Sub.cons (rfl) (Sub.cons (rfl) (Sub.cons (rfl) (Sub.cons (rfl) (Sub.cons (rfl) (Sub.nil))))))) ?_
  have hsl := hCl.size
  have hDl := hD17.chg hCl hZd
  have hbl : Bs wl a17 c17 D.bs := Sl.chg hS17 hCl fun ad e hne => hbZ ad e hne
  refine C.seq ?_
  refine C.seq ?_
  refine C.region ?_
  refine W.move rfl rfl ?_
  refine W.move rfl rfl ?_
  first | refine W.splitD (fun g25 => ?_) (fun g25 => ?_) | refine W.splitB (fun g25 => ?_) (fun g25 => ?_)
  · obtain ⟨x, hx⟩ := Option.isSome_iff_exists.1 g25
    obtain ⟨ax, cx, rfl, hbx, hblk⟩ := hvx x hx
    have hxl := rec1_len hx
    rw [List.length_drop] at hxl
    refine W.wants rfl rfl rfl rfl ?_
    refine W.move rfl rfl ?_
    refine W.wants rfl rfl rfl rfl ?_
    refine W.move rfl rfl ?_
    refine W.wants rfl rfl rfl rfl ?_
    refine W.call Try.call28 rfl (Mbx.again_ok F1 g dg sb none ax cx x _ hSt1 hbx (by omega) (by omega)) rfl ?_
    rintro v28 w28 ⟨rfl, F2, hSt28, hF12, hF21, hC28⟩
    have hF2 : ∀ k, F2 k → Zof g mg lg k ∨ w17.heap.size ≤ k := fun k hk => by
      rcases hF21 k hk with h | h
      · exact hF1 k h
      · exact .inr (by omega)
    have hC28' : Chg (Zof g mg lg) w17 w28 := hCl.news hC28 fun k hk => hF1 k hk
    refine W.pickT rfl rfl rfl ?_
    refine W.nil ?_
    refine At.thenCode ?_
    first | refine C.condD rfl (fun c29 => ?_) (fun c29 => ?_) | refine C.cond rfl (fun c29 => ?_) (fun c29 => ?_)
    · obtain ⟨s', hs'⟩ := Option.isSome_iff_exists.1 c29
      have hab : againB sb x = s' := by unfold againB; rw [hs']; rfl
      rw [hab] at hSt28
      have hlen' := againS_len hs'
      have hbl28 : Bs w28 a17 c17 D.bs := Sl.chg hS17 hC28' fun ad e hne => hbZ ad e hne
      refine C.skip ?_
      refine At.thenCode ?_
      refine C.seq ?_
      refine C.block ?_
      refine C.region ?_
      refine W.move rfl rfl ?_
      refine W.move rfl rfl ?_
      refine W.lenS rfl Try.underlying51 rfl ?_
      first | refine W.addI rfl rfl (by omega) rfl ?_ | refine W.addW rfl rfl rfl ?_
      first | refine W.addI rfl rfl (by omega) rfl ?_ | refine W.addW rfl rfl rfl ?_
      refine W.assign rfl rfl ?_
      refine W.nil ?_
      refine At.blockNormal ?_
      refine At.thenCode ?_
      refine C.region ?_
      refine W.move rfl rfl ?_
      refine W.move rfl rfl ?_
      refine W.call Try.call27 rfl (Mbx.next_ok a17 c17 D.bs (at_ + (12 + x.length)) _ hbl28 hl (by omega)) rfl ?_
      rintro v33 w33 ⟨⟨v3, rfl, hx33⟩, hX33⟩
      refine W.move rfl rfl ?_
      refine W.extract rfl rfl rfl ?_
      refine W.extract rfl rfl rfl ?_
      refine W.assign rfl rfl ?_
      refine W.assign rfl rfl ?_
      refine W.nil ?_
      have hstep := scanS_step hx hs'
      rw [List.drop_drop] at hstep
      refine At.thenRound (at_ + (12 + x.length), s', v3) (Sub.cons (rfl) (Sub.cons (rfl) (Sub.cons (rfl) (Sub.cons (rfl) (Sub.cons (rfl) (Sub.cons (rfl) (Sub.nil))))))) (show (at_ + (12 + x.length)) ≤ D.bs.length ∧ (s').l.length ≤ (at_ + (12 + x.length)) ∧ scanS ⟨[], 0⟩ D.bs = ((scanS (s') (D.bs.drop (at_ + (12 + x.length)))).1, (at_ + (12 + x.length)) + (scanS (s') (D.bs.drop (at_ + (12 + x.length)))).2) ∧ (∀ zz, rec1 (D.bs.drop (at_ + (12 + x.length))) = some zz → ∃ ao c, (v3) = .slice ao zz.length c ∧ Bs _ ao c zz ∧ ∀ ad, ao = some ad → ∃ a, a17 = some a ∧ ad.block = a.block) ∧ Chg (Zof g mg lg) w17 _ ∧ ∃ F1 : Nat → Prop, St _ F1 g dg (s') none ∧ (∀ k, F1 k → Zof g mg lg k ∨ w17.heap.size ≤ k) from ?_) (show D.bs.length - (at_ + (12 + x.length)) < D.bs.length - at_ from ?_)
      · refine ⟨by omega, by omega, ?_, hx33, hC28'.ext hX33, F2, hSt28.ext hX33, hF2⟩
        rw [hscan, hstep]
        simp only [Nat.add_assoc]
      · omega
    · have hag : againS sb x = none := by simpa using c29
      have hfin : scanS ⟨[], 0⟩ D.bs = (sb, at_) := by rw [hscan, scanS_stop (.inr ⟨x, hx, hag⟩)]; rfl
      have hab : againB sb x = sb := by unfold againB; rw [hag]; rfl
      rw [hab] at hSt28
      obtain ⟨Ff, hStf, hFf, hCf⟩ : ∃ Ff : Nat → Prop, St w28 Ff g dg sb none ∧ (∀ k, Ff k → Zof g mg lg k ∨ w17.heap.size ≤ k) ∧ Chg (Zof g mg lg) w17 w28 := ⟨F2, hSt28, hF2, hC28'⟩
      have hDf := hD17.chg hCf hZd
      have hsf := hCf.size
      refine C.exit ?_
      refine At.thenExit ?_
      refine At.thenExit ?_
      refine At.blockSelf ?_
      refine At.thenCode ?_
      refine C.seq ?_
      refine C.seq ?_
      refine C.region ?_
      refine W.move rfl rfl ?_
      refine W.move rfl rfl ?_
      refine W.lenS rfl Try.underlying51 rfl ?_
      refine W.lssI rfl rfl rfl ?_
      refine W.move rfl rfl ?_
      first | refine W.splitD (fun g45 => ?_) (fun g45 => ?_) | refine W.splitB (fun g45 => ?_) (fun g45 => ?_)
      · have hlt : at_ < D.bs.length := by omega
        refine W.wants rfl rfl rfl rfl ?_
        refine W.move rfl rfl ?_
        refine W.wants rfl rfl rfl rfl ?_
        refine W.move rfl rfl ?_
        refine W.wants rfl rfl rfl rfl ?_
        refine W.call Try.call23 rfl (Disk.Cut_ok Fd dg rv D (at_ : Nat) _ hDf) rfl ?_
        rintro v48 w48 ⟨rfl, hD48, hC48⟩
        have hSt48 := hStf.chg hC48 fun k hk hd => by
          rcases hFf k hk with h | h
          · exact hZd k hd h
          · have := hdlt k hd; have := hX17w.size; omega
        have hs48 := hC48.size
        have hFfd : ∀ k, Ff k → w.heap.size ≤ k ∧ ¬ Fd k := fun k hk => by
          have h1 : w.heap.size ≤ k := by
            rcases hFf k hk with h | h
            · exact hZn k h
            · have := hX17w.size; omega
          exact ⟨h1, fun hd => by have := hdlt k hd; omega⟩
        have hC48w : Chg Fd w w48 := ((hX17w.mono fun _ c => c.elim).news hCf fun k hk => .inr (hZn k hk)).trans hC48
        refine W.wants rfl rfl rfl rfl ?_
        refine W.neqI rfl rfl rfl ?_
        refine W.pickT rfl rfl rfl ?_
        refine W.nil ?_
        refine At.thenCode ?_
        first | refine C.condD rfl (fun c50 => ?_) (fun c50 => ?_) | refine C.cond rfl (fun c50 => ?_) (fun c50 => ?_)
        · have hce : ¬ cutE D (at_ : Nat) = 0 := by omega
          have hob : openB D = ⟨cutD D (at_ : Nat), sb, some at_⟩ := by unfold openB; rw [hfin]; simp only; rw [if_pos hlt, if_neg hce]
          obtain ⟨mg', lg', X', es1, k1, es2, k2, h1, h2, h3, h4, h5⟩ := hSt48.out
          have h1' : Bk w48 g [.pointer (some ⟨dg, 0, none⟩), .map (some mg'), .map (some lg'), .int .i64 (sb.past : Int), .int .i64 (owedI none)] := h1
          refine C.region ?_
          refine W.move rfl rfl ?_
          refine W.move rfl rfl ?_
          refine W.nilCheck rfl rfl ?_
          refine W.fieldB (off := 4) (size := 1) (t := 3) (Fld.of (by kernel_rfl)) rfl rfl rfl ?_
          refine W.store1 rfl rfl rfl h1' (by simp) (by kernel_rfl) ?_
          intro wz hCz hBz
          have hStz : St wz Ff g dg sb (some at_) := hSt48.cell hCz (fun mg2 lg2 hB' => by
            have e := Bk.same hB' h1'
            unfold stC at e
            simp only [List.cons.injEq, Value.map.injEq, Option.some.injEq, and_true, true_and] at e
            obtain ⟨rfl, rfl, _⟩ := e
            exact hBz) (fun n hn => by obtain rfl := Option.some.inj hn; omega)
          have hDz := hD48.chg hCz fun k hk hkg => by
            subst hkg
            rcases hk with hk | hk
            · exact (hFfd _ hStf.own).2 hk
            · have := hStf.lt _ hStf.own; omega
          have hres := Opened.of hob hStz hDz (fun k hk => (hFfd k hk).1) (fun k hk hd => by
            rcases hd with hd | hd
            · exact (hFfd k hk).2 hd
            · have := hStf.lt k hk; omega) (fun k hk => hk.imp id fun h => by have := hX17w.size; omega) (hC48w.news hCz fun k hk => .inr (by subst hk; exact (hFfd _ hStf.own).1))
          refine W.nil ?_
          refine At.thenCode ?_
          refine C.seq ?_
          refine C.region ?_
          refine W.move rfl rfl ?_
          refine W.assign rfl rfl ?_
          refine W.nil ?_
          refine At.thenCode ?_
          refine C.ret ?_
          refine At.ret1 Try.results10 rfl ?_
          exact ⟨g, rfl, hres⟩
        · have hce : cutE D (at_ : Nat) = 0 := by omega
          have hob : openB D = ⟨cutD D (at_ : Nat), sb, none⟩ := by unfold openB; rw [hfin]; simp only; rw [if_pos hlt, if_pos hce]
          have hres := Opened.of hob hSt48 hD48 (fun k hk => (hFfd k hk).1) (fun k hk hd => by
            rcases hd with hd | hd
            · exact (hFfd k hk).2 hd
            · have := hStf.lt k hk; omega) (fun k hk => hk.imp id fun h => by have := hX17w.size; omega) hC48w
          refine C.skip ?_
          refine At.thenCode ?_
          refine C.seq ?_
          refine C.region ?_
          refine W.move rfl rfl ?_
          refine W.assign rfl rfl ?_
          refine W.nil ?_
          refine At.thenCode ?_
          refine C.ret ?_
          refine At.ret1 Try.results10 rfl ?_
          exact ⟨g, rfl, hres⟩
      · have hge : at_ = D.bs.length := by omega
        have hob : openB D = ⟨D, sb, none⟩ := by unfold openB; rw [hfin]; simp only; rw [if_neg (by omega)]
        have hres := Opened.of hob hStf hDf (fun k hk => by
          rcases hFf k hk with h | h
          · exact hZn k h
          · have := hX17w.size; omega) (fun k hk hd => by
          rcases hFf k hk with h | h
          · exact hZd k hd h
          · have := hdlt k hd; have := hX17w.size; omega) (fun k hk => .inl hk) ((hX17w.mono fun _ c => c.elim).news hCf fun k hk => .inr (hZn k hk))
        refine W.skips rfl rfl rfl rfl rfl rfl ?_
        refine W.skips rfl rfl rfl rfl rfl rfl ?_
        refine W.skips rfl rfl rfl rfl rfl rfl ?_
        refine W.skips rfl rfl rfl rfl rfl rfl ?_
        refine W.pickF rfl rfl rfl ?_
        refine W.nil ?_
        refine At.thenCode ?_
        refine C.condF rfl ?_
        refine C.skip ?_
        refine At.thenCode ?_
        refine C.seq ?_
        refine C.region ?_
        refine W.move rfl rfl ?_
        refine W.assign rfl rfl ?_
        refine W.nil ?_
        refine At.thenCode ?_
        refine C.ret ?_
        refine At.ret1 Try.results10 rfl ?_
        exact ⟨g, rfl, hres⟩
  · have hst : rec1 (D.bs.drop at_) = none := by simpa using g25
    have hfin : scanS ⟨[], 0⟩ D.bs = (sb, at_) := by rw [hscan, scanS_stop (.inl hst)]; rfl
    obtain ⟨Ff, hStf, hFf, hCf⟩ : ∃ Ff : Nat → Prop, St wl Ff g dg sb none ∧ (∀ k, Ff k → Zof g mg lg k ∨ w17.heap.size ≤ k) ∧ Chg (Zof g mg lg) w17 wl := ⟨F1, hSt1, hF1, hCl⟩
    have hDf := hD17.chg hCf hZd
    have hsf := hCf.size
    refine W.skips rfl rfl rfl rfl rfl rfl ?_
    refine W.skips rfl rfl rfl rfl rfl rfl ?_
    refine W.skips rfl rfl rfl rfl rfl rfl ?_
    refine W.pickF rfl rfl rfl ?_
    refine W.nil ?_
    refine At.thenCode ?_
    refine C.condF rfl ?_
    refine C.exit ?_
    refine At.thenExit ?_
    refine At.thenExit ?_
    refine At.blockSelf ?_
    refine At.thenCode ?_
    refine C.seq ?_
    refine C.seq ?_
    refine C.region ?_
    refine W.move rfl rfl ?_
    refine W.move rfl rfl ?_
    refine W.lenS rfl Try.underlying51 rfl ?_
    refine W.lssI rfl rfl rfl ?_
    refine W.move rfl rfl ?_
    first | refine W.splitD (fun g45 => ?_) (fun g45 => ?_) | refine W.splitB (fun g45 => ?_) (fun g45 => ?_)
    · have hlt : at_ < D.bs.length := by omega
      refine W.wants rfl rfl rfl rfl ?_
      refine W.move rfl rfl ?_
      refine W.wants rfl rfl rfl rfl ?_
      refine W.move rfl rfl ?_
      refine W.wants rfl rfl rfl rfl ?_
      refine W.call Try.call23 rfl (Disk.Cut_ok Fd dg rv D (at_ : Nat) _ hDf) rfl ?_
      rintro v48 w48 ⟨rfl, hD48, hC48⟩
      have hSt48 := hStf.chg hC48 fun k hk hd => by
        rcases hFf k hk with h | h
        · exact hZd k hd h
        · have := hdlt k hd; have := hX17w.size; omega
      have hs48 := hC48.size
      have hFfd : ∀ k, Ff k → w.heap.size ≤ k ∧ ¬ Fd k := fun k hk => by
        have h1 : w.heap.size ≤ k := by
          rcases hFf k hk with h | h
          · exact hZn k h
          · have := hX17w.size; omega
        exact ⟨h1, fun hd => by have := hdlt k hd; omega⟩
      have hC48w : Chg Fd w w48 := ((hX17w.mono fun _ c => c.elim).news hCf fun k hk => .inr (hZn k hk)).trans hC48
      refine W.wants rfl rfl rfl rfl ?_
      refine W.neqI rfl rfl rfl ?_
      refine W.pickT rfl rfl rfl ?_
      refine W.nil ?_
      refine At.thenCode ?_
      first | refine C.condD rfl (fun c50 => ?_) (fun c50 => ?_) | refine C.cond rfl (fun c50 => ?_) (fun c50 => ?_)
      · have hce : ¬ cutE D (at_ : Nat) = 0 := by omega
        have hob : openB D = ⟨cutD D (at_ : Nat), sb, some at_⟩ := by unfold openB; rw [hfin]; simp only; rw [if_pos hlt, if_neg hce]
        obtain ⟨mg', lg', X', es1, k1, es2, k2, h1, h2, h3, h4, h5⟩ := hSt48.out
        have h1' : Bk w48 g [.pointer (some ⟨dg, 0, none⟩), .map (some mg'), .map (some lg'), .int .i64 (sb.past : Int), .int .i64 (owedI none)] := h1
        refine C.region ?_
        refine W.move rfl rfl ?_
        refine W.move rfl rfl ?_
        refine W.nilCheck rfl rfl ?_
        refine W.fieldB (off := 4) (size := 1) (t := 3) (Fld.of (by kernel_rfl)) rfl rfl rfl ?_
        refine W.store1 rfl rfl rfl h1' (by simp) (by kernel_rfl) ?_
        intro wz hCz hBz
        have hStz : St wz Ff g dg sb (some at_) := hSt48.cell hCz (fun mg2 lg2 hB' => by
          have e := Bk.same hB' h1'
          unfold stC at e
          simp only [List.cons.injEq, Value.map.injEq, Option.some.injEq, and_true, true_and] at e
          obtain ⟨rfl, rfl, _⟩ := e
          exact hBz) (fun n hn => by obtain rfl := Option.some.inj hn; omega)
        have hDz := hD48.chg hCz fun k hk hkg => by
          subst hkg
          rcases hk with hk | hk
          · exact (hFfd _ hStf.own).2 hk
          · have := hStf.lt _ hStf.own; omega
        have hres := Opened.of hob hStz hDz (fun k hk => (hFfd k hk).1) (fun k hk hd => by
          rcases hd with hd | hd
          · exact (hFfd k hk).2 hd
          · have := hStf.lt k hk; omega) (fun k hk => hk.imp id fun h => by have := hX17w.size; omega) (hC48w.news hCz fun k hk => .inr (by subst hk; exact (hFfd _ hStf.own).1))
        refine W.nil ?_
        refine At.thenCode ?_
        refine C.seq ?_
        refine C.region ?_
        refine W.move rfl rfl ?_
        refine W.assign rfl rfl ?_
        refine W.nil ?_
        refine At.thenCode ?_
        refine C.ret ?_
        refine At.ret1 Try.results10 rfl ?_
        exact ⟨g, rfl, hres⟩
      · have hce : cutE D (at_ : Nat) = 0 := by omega
        have hob : openB D = ⟨cutD D (at_ : Nat), sb, none⟩ := by unfold openB; rw [hfin]; simp only; rw [if_pos hlt, if_pos hce]
        have hres := Opened.of hob hSt48 hD48 (fun k hk => (hFfd k hk).1) (fun k hk hd => by
          rcases hd with hd | hd
          · exact (hFfd k hk).2 hd
          · have := hStf.lt k hk; omega) (fun k hk => hk.imp id fun h => by have := hX17w.size; omega) hC48w
        refine C.skip ?_
        refine At.thenCode ?_
        refine C.seq ?_
        refine C.region ?_
        refine W.move rfl rfl ?_
        refine W.assign rfl rfl ?_
        refine W.nil ?_
        refine At.thenCode ?_
        refine C.ret ?_
        refine At.ret1 Try.results10 rfl ?_
        exact ⟨g, rfl, hres⟩
    · have hge : at_ = D.bs.length := by omega
      have hob : openB D = ⟨D, sb, none⟩ := by unfold openB; rw [hfin]; simp only; rw [if_neg (by omega)]
      have hres := Opened.of hob hStf hDf (fun k hk => by
        rcases hFf k hk with h | h
        · exact hZn k h
        · have := hX17w.size; omega) (fun k hk hd => by
        rcases hFf k hk with h | h
        · exact hZd k hd h
        · have := hdlt k hd; have := hX17w.size; omega) (fun k hk => .inl hk) ((hX17w.mono fun _ c => c.elim).news hCf fun k hk => .inr (hZn k hk))
      refine W.skips rfl rfl rfl rfl rfl rfl ?_
      refine W.skips rfl rfl rfl rfl rfl rfl ?_
      refine W.skips rfl rfl rfl rfl rfl rfl ?_
      refine W.skips rfl rfl rfl rfl rfl rfl ?_
      refine W.pickF rfl rfl rfl ?_
      refine W.nil ?_
      refine At.thenCode ?_
      refine C.condF rfl ?_
      refine C.skip ?_
      refine At.thenCode ?_
      refine C.seq ?_
      refine C.region ?_
      refine W.move rfl rfl ?_
      refine W.assign rfl rfl ?_
      refine W.nil ?_
      refine At.thenCode ?_
      refine C.ret ?_
      refine At.ret1 Try.results10 rfl ?_
      exact ⟨g, rfl, hres⟩
end Go.Proofs.Ythiijdbiikljpaa.Mbx
