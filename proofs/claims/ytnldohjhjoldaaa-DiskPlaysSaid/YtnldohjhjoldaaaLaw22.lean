/- The walks of chapter 22's laws on failing calls and on what was synced. -/
import Derived.Test.YtnldohjhjoldaaaDisk3
import Derived.Test.YtnldohjhjoldaaaKx
namespace Go.Proofs.Ytnldohjhjoldaaa.Law22
open Go Go.RowKit Go.Proofs.Ytnldohjhjoldaaa.KW Go.Proofs.Ytnldohjhjoldaaa.Words Go.Proofs.Ytnldohjhjoldaaa.Disk
set_option linter.unusedVariables false
set_option linter.unusedSimpArgs false
set_option maxRecDepth 100000
theorem num_ok (e : Int) (w : World) : Ct Try.prog 15 #[.int .i64 e] w (fun v w' => v = .int .i64 e ∧ w = w') := by
  refine Ct.enter [(0, .int .i64 e)] Try.func15 rfl rfl rfl rfl ?_
  refine C.seq ?_
  refine C.region ?_
  refine W.assign rfl rfl ?_
  refine W.nil ?_
  refine At.thenCode ?_
  refine C.seq ?_
  refine C.region ?_
  refine W.move rfl rfl ?_
  refine W.assign rfl rfl ?_
  refine W.nil ?_
  refine At.thenCode ?_
  refine C.ret ?_
  refine At.ret1 Try.results15 rfl ?_
  exact ⟨rfl, rfl⟩
theorem newD_ok (n : Nat) : (⟨n, [], 0, []⟩ : Dsk).Ok := ⟨Nat.zero_le _, Nat.zero_le _, Nat.zero_le _, Nat.zero_le _⟩
/-- A disk's blocks are new: what its calls change does not count. -/
theorem news {F : Nat → Prop} {w w1 w2 : World} (h : Ext w w1) (c : Chg F w1 w2) (hF : ∀ k, F k → w.heap.size ≤ k) : Ext w w2 := h.news c fun k hk => Or.inr (hF k hk)
theorem grown_new {F : Nat → Prop} {w w1 w2 : World} (hF : ∀ k, F k → w.heap.size ≤ k) (hs : w.heap.size ≤ w1.heap.size) : ∀ k, Grown F w1 w2 k → w.heap.size ≤ k := fun k hk => by
  rcases hk with hk | hk
  · exact hF k hk
  · omega
theorem alive_ok (w : World) : Ct Try.prog 11 #[] w (fun v w' => v = .bool true ∧ Ext w w') := by
  refine Ct.enter [] Try.func11 rfl rfl rfl rfl ?_
  refine C.seq ?_
  refine C.region ?_
  refine W.assign rfl rfl ?_
  refine W.nil ?_
  refine At.thenCode ?_
  refine C.seq ?_
  refine C.region ?_
  refine W.call Try.call12 rfl (Disk.New_ok 10 _ (by decide)) rfl ?_
  rintro v3 w3 ⟨g, rfl, hD3, hX3⟩
  have hF3 := grown_new (F := fun _ => False) (w := w) (w1 := w) (w2 := w3) (fun k hk => hk.elim) (Nat.le_refl _)
  refine W.assign rfl rfl ?_
  refine W.nil ?_
  refine At.thenCode ?_
  refine C.seq ?_
  refine C.seq ?_
  refine C.region ?_
  refine W.move rfl rfl ?_
  refine W.eqlPtr (by kernel_rfl) rfl rfl rfl ?_
  refine W.eqv (v' := .bool false) (rfl) ?_
  refine W.nil ?_
  refine At.thenCode ?_
  refine C.condF rfl ?_
  refine C.skip ?_
  refine At.thenCode ?_
  refine C.seq ?_
  refine C.region ?_
  refine W.move rfl rfl ?_
  refine W.litB [97, 98] E8 Try.underlying23 rfl rfl rfl rfl rfl ?_
  intro g7 w7 hg7 hX7 ho7 hb7
  have hs7 := hX7.size
  have hs3 := hX3.size
  have hB7 : ∃ cells, Bk w7 g7 cells := by
    rcases ho7.2 with ⟨h, _⟩ | ⟨q, cap, cur, hv, _, hq, _⟩
    · cases h
    · injection hv with h1 _ _
      injection h1 with h1
      injection h1 with h1
      subst h1
      exact ⟨cur.toList, _, by simpa using hq⟩
  obtain ⟨cells7, hB7⟩ := hB7
  refine W.constB Try.underlying23 Try.underlying5 rfl hB7 hb7 rfl ?_
  intro w8 hc8 hb8
  have hX8 : Ext w3 w8 := hX7.news hc8 (fun k hk => Or.inr (by omega))
  have hD8 := hD3.ext hX8
  refine W.call Try.call14 rfl (Disk.Append_ok _ g _ _ _ _ [97, 98] _ hD8 (by decide) hb8 (fun ad e _ hk => by obtain rfl := Option.some.inj e; have := hD3.lt _ hk; simp only at this; omega) (by decide)) rfl ?_
  rintro v9 w9 ⟨rfl, hD9, hc9⟩
  have hX9 : Ext w w9 := news (hX3.ext hX8) hc9 hF3
  have hF9 := grown_new (w2 := w9) hF3 (hX3.ext hX8).size
  refine W.assign rfl rfl ?_
  refine W.nil ?_
  refine At.thenCode ?_
  refine C.seq ?_
  refine C.region ?_
  refine W.move rfl rfl ?_
  refine W.call Try.call18 rfl (Disk.Crash_ok _ g _ _ 1 _ hD9) rfl ?_
  rintro v11 w11 ⟨hD11, hc11⟩
  have hX11 : Ext w w11 := news hX9 hc11 hF9
  refine W.nil ?_
  refine At.thenCode ?_
  refine C.seq ?_
  refine C.region ?_
  refine W.move rfl rfl ?_
  refine W.call Try.call15 rfl (num_ok _ _) rfl ?_
  rintro v13 w13 ⟨rfl, rfl⟩
  rw [show appE ⟨(10 : Int).toNat, [], 0, []⟩ [97, 98] = 0 from by decide]
  refine W.eqlI rfl rfl rfl ?_
  refine W.eqv (bT (rfl)) ?_
  refine W.move rfl rfl ?_
  refine W.wants rfl rfl rfl rfl ?_
  refine W.move rfl rfl ?_
  refine W.wants rfl rfl rfl rfl ?_
  refine W.call Try.call16 rfl (Disk.Bytes_ok _ _ _ _ _ (by assumption)) rfl ?_
  rintro v17 w17 ⟨⟨ao17, c17, rfl, hS17, hb17⟩, hX17⟩
  rw [show (crashD (appD ⟨(10 : Int).toNat, [], 0, []⟩ [97, 98]) 1).bs = [97] from by decide] at hS17 ⊢
  refine W.wants rfl rfl rfl rfl ?_
  refine W.bytesStr Try.underlying23 Try.underlying5 Try.underlying9 rfl hS17 rfl ?_
  refine W.wants rfl rfl rfl rfl ?_
  refine W.eqlStr (a := [97]) (b := [97]) rfl rfl rfl ?_
  refine W.eqv (bT (rfl)) ?_
  refine W.pickT rfl rfl rfl ?_
  refine W.assign rfl rfl ?_
  refine W.nil ?_
  refine At.thenCode ?_
  refine C.ret ?_
  refine At.ret1 Try.results11 rfl ?_
  exact ⟨rfl, hX11.ext hX17⟩
theorem failB_lt {r s : Nat} {bs : List UInt8} {l : List Int} {i : Nat} (h : i < l.length) : failB ⟨r, bs, s, l.drop i⟩ = decide (¬ l[i]'h = 0) := by
  unfold failB; simp only; rw [List.drop_eq_getElem_cons h]
theorem failB_ge {r s : Nat} {bs : List UInt8} {l : List Int} {i : Nat} (h : ¬ i < l.length) : failB ⟨r, bs, s, l.drop i⟩ = false := by
  unfold failB; simp only; rw [List.drop_of_length_le (by omega)]
theorem DiskFails_walk (lo : Option Addr) (lc : Nat) (l : List Int) (ap : Option Addr) (cp : Nat) (b : List UInt8) (w : World) (hl : Zs w lo lc l) (hll : l.length ≤ 9223372036854775807) (hlb : ∀ x ∈ l, -9223372036854775808 ≤ x ∧ x ≤ 9223372036854775807) (hB : Bs w ap cp b) (hbl : b.length ≤ 9223372036854775807) :
    Ct Try.prog 3 #[.slice lo l.length lc, .slice ap b.length cp] w (LawOk w) := by
  refine Ct.enter [(0, .slice lo l.length lc), (1, .slice ap b.length cp)] Try.func3 rfl rfl rfl rfl ?_
  refine C.seq ?_
  refine C.region ?_
  refine W.assign rfl rfl ?_
  refine W.nil ?_
  refine At.thenCode ?_
  refine C.seq ?_
  refine C.region ?_
  refine W.call Try.call11 rfl (alive_ok _) rfl ?_
  rintro v11 w11 ⟨rfl, hX11⟩
  refine W.assign rfl rfl ?_
  refine W.nil ?_
  refine At.thenCode ?_
  refine C.seq ?_
  refine C.seq ?_
  refine C.region ?_
  refine W.move rfl rfl ?_
  first | refine W.notD rfl rfl ?_ | refine W.notB rfl rfl ?_
  refine W.move rfl rfl ?_
  refine W.wants rfl rfl rfl rfl ?_
  refine W.move rfl rfl ?_
  refine W.wants rfl rfl rfl rfl ?_
  refine W.lenS rfl Try.underlying22 rfl ?_
  refine W.wants rfl rfl rfl rfl ?_
  refine W.gtrI rfl rfl rfl ?_
  refine W.pickF rfl rfl rfl ?_
  refine W.move rfl rfl ?_
  first | refine W.splitD (fun g19 => ?_) (fun g19 => ?_) | refine W.splitB (fun g19 => ?_) (fun g19 => ?_)
  · refine W.skips rfl rfl rfl rfl rfl rfl ?_
    refine W.skips rfl rfl rfl rfl rfl rfl ?_
    refine W.skips rfl rfl rfl rfl rfl rfl ?_
    refine W.pickT rfl rfl rfl ?_
    refine W.move rfl rfl ?_
    refine W.skips rfl rfl rfl rfl rfl rfl ?_
    refine W.skips rfl rfl rfl rfl rfl rfl ?_
    refine W.skips rfl rfl rfl rfl rfl rfl ?_
    refine W.pickT rfl rfl rfl ?_
    refine W.nil ?_
    refine At.thenCode ?_
    refine C.condT rfl ?_
    refine C.seq ?_
    refine C.region ?_
    refine W.move rfl rfl ?_
    refine W.assign rfl rfl ?_
    refine W.nil ?_
    refine At.thenCode ?_
    refine C.ret ?_
    refine At.thenRet ?_
    refine At.ret1 Try.results3 rfl ?_
    first | exact ⟨rfl, Ext.below hX1⟩ | exact ⟨rfl, Ext.below hX11⟩
  · refine W.wants rfl rfl rfl rfl ?_
    refine W.move rfl rfl ?_
    refine W.wants rfl rfl rfl rfl ?_
    refine W.lenS rfl Try.underlying23 rfl ?_
    refine W.wants rfl rfl rfl rfl ?_
    refine W.gtrI rfl rfl rfl ?_
    refine W.pickF rfl rfl rfl ?_
    refine W.move rfl rfl ?_
    first | refine W.splitD (fun g24 => ?_) (fun g24 => ?_) | refine W.splitB (fun g24 => ?_) (fun g24 => ?_)
    · refine W.skips rfl rfl rfl rfl rfl rfl ?_
      refine W.skips rfl rfl rfl rfl rfl rfl ?_
      refine W.skips rfl rfl rfl rfl rfl rfl ?_
      refine W.pickT rfl rfl rfl ?_
      refine W.nil ?_
      refine At.thenCode ?_
      refine C.condT rfl ?_
      refine C.seq ?_
      refine C.region ?_
      refine W.move rfl rfl ?_
      refine W.assign rfl rfl ?_
      refine W.nil ?_
      refine At.thenCode ?_
      refine C.ret ?_
      refine At.thenRet ?_
      refine At.ret1 Try.results3 rfl ?_
      first | exact ⟨rfl, Ext.below hX1⟩ | exact ⟨rfl, Ext.below hX11⟩
    · refine W.wants rfl rfl rfl rfl ?_
      refine W.move rfl rfl ?_
      refine W.wants rfl rfl rfl rfl ?_
      refine W.lenS rfl Try.underlying23 rfl ?_
      refine W.wants rfl rfl rfl rfl ?_
      refine W.eqlI rfl rfl rfl ?_
      refine W.pickF rfl rfl rfl ?_
      refine W.nil ?_
      refine At.thenCode ?_
      first | refine C.condD rfl (fun c28 => ?_) (fun c28 => ?_) | refine C.cond rfl (fun c28 => ?_) (fun c28 => ?_)
      · refine C.seq ?_
        refine C.region ?_
        refine W.move rfl rfl ?_
        refine W.assign rfl rfl ?_
        refine W.nil ?_
        refine At.thenCode ?_
        refine C.ret ?_
        refine At.thenRet ?_
        refine At.ret1 Try.results3 rfl ?_
        first | exact ⟨rfl, Ext.below hX1⟩ | exact ⟨rfl, Ext.below hX11⟩
      · refine C.skip ?_
        refine At.thenCode ?_
        refine C.seq ?_
        refine C.region ?_
        refine W.call Try.call12 rfl (Disk.New_ok 10000 _ (by decide)) rfl ?_
        rintro v30 w30 ⟨g, rfl, hD30, hX30⟩
        have hX30' := hX11.ext hX30
        have hF30 := grown_new (F := fun _ => False) (w := w) (w1 := w11) (w2 := w30) (fun k hk => hk.elim) hX11.size
        refine W.assign rfl rfl ?_
        refine W.nil ?_
        refine At.thenCode ?_
        refine C.seq ?_
        refine C.region ?_
        refine W.move rfl rfl ?_
        refine W.move rfl rfl ?_
        refine W.append (cs := []) XI Try.underlying22 rfl rfl (World.ownsRow_nil _ w30.heap.size 3 1) (hl.ext hX30') (z_oneCell l) (by omega) (by omega) (Nat.le_refl _) rfl ?_
        rw [List.nil_append, Nat.zero_add]
        intro v33 w33 ho33 hg33 _
        have hX33 : Ext w30 w33 := (Chg.of_grown hg33).mono fun k hk => by cases hk
        obtain ⟨ao33, c33, rfl, hS33, _⟩ := ownsRow_form ho33
        refine W.call Try.call13 rfl (Disk.Fail_ok _ g _ _ _ _ l _ (hD30.ext hX33) hS33 (by omega)) rfl ?_
        rintro v34 w34 ⟨hD34, hc34⟩
        have hX34 : Ext w w34 := news (hX30'.ext hX33) hc34 hF30
        have hF34 := grown_new (w2 := w34) hF30 (hX30'.ext hX33).size
        obtain ⟨F34, hF34, hD34⟩ : ∃ F : Nat → Prop, (∀ k, F k → w.heap.size ≤ k) ∧ Dk w34 F g (max 0 10000) ⟨10000, [], 0, l.drop 0⟩ := ⟨_, hF34, hD34⟩
        refine W.nil ?_
        refine At.thenCode ?_
        refine C.seq ?_
        refine C.region ?_
        refine W.assign rfl rfl ?_
        refine W.nil ?_
        refine At.thenCode ?_
        refine C.seq ?_
        refine C.seq ?_
        refine C.region ?_
        refine W.assign rfl rfl ?_
        refine W.nil ?_
        refine At.thenCode ?_
        refine C.block ?_
        refine C.loop (X := Nat × (List UInt8) × (Nat → Prop)) (fun x_ => [(0, .slice lo l.length lc), (1, .slice ap b.length cp), (6, .pointer (some ⟨g, 0, none⟩)), (7, .int .i64 (x_.2.1.length : Int)), (8, .int .i64 (x_.1 : Int))]) (fun x_ w1 => Ext w w1 ∧ x_.1 ≤ l.length + 2 ∧ x_.2.1.length ≤ 20 * x_.1 ∧ (∀ k, x_.2.2 k → w.heap.size ≤ k) ∧ Dk w1 x_.2.2 g (max 0 10000) ⟨10000, x_.2.1, 0, l.drop x_.1⟩) (fun x_ => l.length + 2 - x_.1) (0, [], F34) (Sub.cons (rfl) (Sub.cons (rfl) (Sub.cons (rfl) (Sub.cons (rfl) (Sub.cons (rfl) (Sub.nil)))))) ?start1 ?_
        case start1 =>
          show Ext w _ ∧ (0) ≤ l.length + 2 ∧ ([]).length ≤ 20 * (0) ∧ (∀ k, (F34) k → w.heap.size ≤ k) ∧ Dk _ (F34) g (max 0 10000) ⟨10000, ([]), 0, l.drop (0)⟩
          exact ⟨hX34, by omega, by simp, hF34, hD34⟩
        rintro ⟨i, bs, F⟩ w1 hI_
        replace hI_ : Ext w w1 ∧ i ≤ l.length + 2 ∧ bs.length ≤ 20 * i ∧ (∀ k, F k → w.heap.size ≤ k) ∧ Dk w1 F g (max 0 10000) ⟨10000, bs, 0, l.drop i⟩ := hI_
        obtain ⟨hX1, hi, hbs, hF1, hD1⟩ := hI_
        refine C.weaken (l' := [(0, .slice lo l.length lc), (1, .slice ap b.length cp), (6, .pointer (some ⟨g, 0, none⟩)), (7, .int .i64 (bs.length : Int)), (8, .int .i64 (i : Int))]) (Sub.cons (rfl) (Sub.cons (rfl) (Sub.cons (rfl) (Sub.cons (rfl) (Sub.cons (rfl) (Sub.nil)))))) ?_
        refine C.seq ?_
        refine C.seq ?_
        refine C.region ?_
        refine W.move rfl rfl ?_
        refine W.move rfl rfl ?_
        refine W.lenS rfl Try.underlying22 rfl ?_
        first | refine W.addI rfl rfl (by omega) rfl ?_ | refine W.addW rfl rfl rfl ?_
        refine W.lssI rfl rfl rfl ?_
        refine W.nil ?_
        refine At.thenCode ?_
        first | refine C.condD rfl (fun c39 => ?_) (fun c39 => ?_) | refine C.cond rfl (fun c39 => ?_) (fun c39 => ?_)
        · have hap : ∀ ad, ap = some ad → b ≠ [] → ¬ F ad.block := fun ad e hne hk => by
            have h1 := hF1 _ hk
            have h2 := hB.blk e (by intro h; exact hne (List.map_eq_nil_iff.1 h))
            omega
          obtain ⟨D, hD⟩ : ∃ D : Dsk, D = ⟨10000, bs, 0, l.drop i⟩ := ⟨_, rfl⟩
          rw [← hD] at hD1
          have hDb : D.bs = bs := by rw [hD]
          have hnf : ¬ Full D b.length := by unfold Full; rw [hD]; simp only; omega
          refine C.skip ?_
          refine At.thenCode ?_
          refine C.seq ?_
          refine C.block ?_
          refine C.seq ?_
          by_cases hf : failB D = true
          · refine C.region ?_
            refine W.move rfl rfl ?_
            refine W.move rfl rfl ?_
            refine W.call Try.call14 rfl (Disk.Append_ok F g _ D _ _ b _ hD1 (by decide) (hB.ext hX1) hap (by rw [hDb]; omega)) rfl ?_
            rintro v44 w44 ⟨rfl, hD44, hc44⟩
            have hX44 : Ext w w44 := news hX1 hc44 hF1
            have hF44 := grown_new (w2 := w44) hF1 hX1.size
            obtain ⟨F44, hF44, hD44⟩ : ∃ F : Nat → Prop, (∀ k, F k → w.heap.size ≤ k) ∧ Dk w44 F g (max 0 10000) (appD D b) := ⟨_, hF44, hD44⟩
            have hE : appE D b = 7 := by unfold appE; rw [if_pos (.inl hf)]
            have hN : appD D b = ⟨10000, bs, 0, l.drop (i + 1)⟩ := by unfold appD; rw [if_pos (.inl hf), hD]; simp [List.tail_drop]
            rw [hE]
            rw [hN] at hD44
            refine W.assign rfl rfl ?_
            refine W.nil ?_
            refine At.thenCode ?_
            refine C.seq ?_
            refine C.region ?_
            refine W.move rfl rfl ?_
            refine W.move rfl rfl ?_
            refine W.lenS rfl Try.underlying22 rfl ?_
            refine W.lssI rfl rfl rfl ?_
            refine W.move rfl rfl ?_
            first | refine W.splitD (fun g49 => ?_) (fun g49 => ?_) | refine W.splitB (fun g49 => ?_) (fun g49 => ?_)
            · have hlt : i < l.length := by omega
              obtain ⟨x, hx⟩ : ∃ x, x = l[i]'hlt := ⟨_, rfl⟩
              have hfx : failB D = decide (¬ x = 0) := by rw [hD, hx]; exact failB_lt hlt
              have hgx : (l.map (.int .i64) : List Value)[i]? = some (.int .i64 x) := by rw [hx]; exact get_z hlt
              refine W.wants rfl rfl rfl rfl ?_
              refine W.move rfl rfl ?_
              refine W.wants rfl rfl rfl rfl ?_
              refine W.move rfl rfl ?_
              refine W.wants rfl rfl rfl rfl ?_
              refine W.indexS (i := (i : Int)) XI Try.underlying22 rfl (hl.ext hX44) rfl ⟨by omega, by omega⟩ rfl ?_
              intro ad52 _ _ hc52
              refine W.wants rfl rfl rfl rfl ?_
              refine W.load (v := .int .i64 x) rfl Try.underlying3 rfl (by have h := hc52 0 (.int .i64 x) (by rw [List.getElem?_drop, Int.toNat_natCast, Nat.mul_one, Nat.add_zero]; exact hgx); rwa [add_zero'] at h) rfl ?_
              refine W.wants rfl rfl rfl rfl ?_
              refine W.neqI rfl rfl rfl ?_
              refine W.eqv (v' := .bool true) (by rw [← hfx, hf]) ?_
              refine W.pickT rfl rfl rfl ?_
              refine W.assign rfl rfl ?_
              refine W.nil ?_
              refine At.thenCode ?_
              refine C.seq ?_
              refine C.seq ?_
              refine C.region ?_
              refine W.move rfl rfl ?_
              refine W.call Try.call15 rfl (num_ok _ _) rfl ?_
              rintro v57 w57 ⟨rfl, rfl⟩
              refine W.eqlI rfl rfl rfl ?_
              refine W.eqv (bT (rfl)) ?_
              refine W.move rfl rfl ?_
              refine W.neqB rfl rfl Try.underlying4 rfl ?_
              refine W.eqv (v' := .bool false) (rfl) ?_
              refine W.move rfl rfl ?_
              refine W.wants rfl rfl rfl rfl ?_
              refine W.move rfl rfl ?_
              refine W.wants rfl rfl rfl rfl ?_
              first | refine W.notD rfl rfl ?_ | refine W.notB rfl rfl ?_
              refine W.wants rfl rfl rfl rfl ?_
              refine W.move rfl rfl ?_
              refine W.skips rfl rfl rfl rfl rfl rfl ?_
              refine W.skips rfl rfl rfl rfl rfl rfl ?_
              refine W.skips rfl rfl rfl rfl rfl rfl ?_
              refine W.wants rfl rfl rfl rfl ?_
              refine W.pickF rfl rfl rfl ?_
              refine W.pickF rfl rfl rfl ?_
              refine W.nil ?_
              refine At.thenCode ?_
              refine C.condF rfl ?_
              refine C.skip ?_
              refine At.thenCode ?_
              refine C.seq ?_
              refine C.seq ?_
              refine C.region ?_
              refine W.move rfl rfl ?_
              first | refine W.notD rfl rfl ?_ | refine W.notB rfl rfl ?_
              refine W.nil ?_
              refine At.thenCode ?_
              refine C.condF rfl ?_
              refine C.skip ?_
              refine At.thenCode ?_
              refine C.seq ?_
              refine C.region ?_
              refine W.move rfl rfl ?_
              refine W.call Try.call16 rfl (Disk.Bytes_ok _ _ _ _ _ (by assumption)) rfl ?_
              rintro v77 w77 ⟨⟨ao77, c77, rfl, hS77, hb77⟩, hX77⟩
              refine W.lenS rfl Try.underlying23 rfl ?_
              refine W.move rfl rfl ?_
              refine W.neqI rfl rfl rfl ?_
              refine W.eqv (bF (fun h => h rfl)) ?_
              refine W.nil ?_
              refine At.thenCode ?_
              refine C.condF rfl ?_
              refine C.skip ?_
              refine At.blockNormal ?_
              refine At.thenCode ?_
              refine C.region ?_
              refine W.move rfl rfl ?_
              first | refine W.addI rfl rfl (by omega) rfl ?_ | refine W.addW rfl rfl rfl ?_
              refine W.assign rfl rfl ?_
              refine W.nil ?_
              refine At.thenRound (i + 1, bs, F44) (Sub.cons (rfl) (Sub.cons (rfl) (Sub.cons (rfl) (Sub.cons (rfl) (Sub.cons (look_eq rfl (iV (by omega))) (Sub.nil)))))) (show Ext w _ ∧ (i + 1) ≤ l.length + 2 ∧ (bs).length ≤ 20 * (i + 1) ∧ (∀ k, (F44) k → w.heap.size ≤ k) ∧ Dk _ (F44) g (max 0 10000) ⟨10000, (bs), 0, l.drop (i + 1)⟩ from ?_) (show l.length + 2 - (i + 1) < l.length + 2 - i from ?_)
              · exact ⟨hX44.ext hX77, by omega, by omega, hF44, hD44.ext hX77⟩
              · omega
            · exact absurd hf (by rw [show failB D = false from by rw [hD]; exact failB_ge (by omega)]; decide)
          · refine C.region ?_
            refine W.move rfl rfl ?_
            refine W.move rfl rfl ?_
            refine W.call Try.call14 rfl (Disk.Append_ok F g _ D _ _ b _ hD1 (by decide) (hB.ext hX1) hap (by rw [hDb]; omega)) rfl ?_
            rintro v44 w44 ⟨rfl, hD44, hc44⟩
            have hX44 : Ext w w44 := news hX1 hc44 hF1
            have hF44 := grown_new (w2 := w44) hF1 hX1.size
            obtain ⟨F44, hF44, hD44⟩ : ∃ F : Nat → Prop, (∀ k, F k → w.heap.size ≤ k) ∧ Dk w44 F g (max 0 10000) (appD D b) := ⟨_, hF44, hD44⟩
            have hE : appE D b = 0 := by unfold appE; rw [if_neg (fun h => h.elim hf hnf)]
            have hN : appD D b = ⟨10000, bs ++ b, 0, l.drop (i + 1)⟩ := by unfold appD; rw [if_neg (fun h => h.elim hf hnf), hD]; simp [List.tail_drop]
            rw [hE]
            rw [hN] at hD44
            refine W.assign rfl rfl ?_
            refine W.nil ?_
            refine At.thenCode ?_
            refine C.seq ?_
            refine C.region ?_
            refine W.move rfl rfl ?_
            refine W.move rfl rfl ?_
            refine W.lenS rfl Try.underlying22 rfl ?_
            refine W.lssI rfl rfl rfl ?_
            refine W.move rfl rfl ?_
            first | refine W.splitD (fun g49 => ?_) (fun g49 => ?_) | refine W.splitB (fun g49 => ?_) (fun g49 => ?_)
            · have hlt : i < l.length := by omega
              obtain ⟨x, hx⟩ : ∃ x, x = l[i]'hlt := ⟨_, rfl⟩
              have hfx : failB D = decide (¬ x = 0) := by rw [hD, hx]; exact failB_lt hlt
              have hgx : (l.map (.int .i64) : List Value)[i]? = some (.int .i64 x) := by rw [hx]; exact get_z hlt
              refine W.wants rfl rfl rfl rfl ?_
              refine W.move rfl rfl ?_
              refine W.wants rfl rfl rfl rfl ?_
              refine W.move rfl rfl ?_
              refine W.wants rfl rfl rfl rfl ?_
              refine W.indexS (i := (i : Int)) XI Try.underlying22 rfl (hl.ext hX44) rfl ⟨by omega, by omega⟩ rfl ?_
              intro ad52 _ _ hc52
              refine W.wants rfl rfl rfl rfl ?_
              refine W.load (v := .int .i64 x) rfl Try.underlying3 rfl (by have h := hc52 0 (.int .i64 x) (by rw [List.getElem?_drop, Int.toNat_natCast, Nat.mul_one, Nat.add_zero]; exact hgx); rwa [add_zero'] at h) rfl ?_
              refine W.wants rfl rfl rfl rfl ?_
              refine W.neqI rfl rfl rfl ?_
              refine W.eqv (v' := .bool false) (by rw [← hfx]; simpa using hf) ?_
              refine W.pickT rfl rfl rfl ?_
              refine W.assign rfl rfl ?_
              refine W.nil ?_
              refine At.thenCode ?_
              refine C.seq ?_
              refine C.seq ?_
              refine C.region ?_
              refine W.move rfl rfl ?_
              refine W.call Try.call15 rfl (num_ok _ _) rfl ?_
              rintro v57 w57 ⟨rfl, rfl⟩
              refine W.eqlI rfl rfl rfl ?_
              refine W.eqv (bF (by decide)) ?_
              refine W.move rfl rfl ?_
              refine W.neqB rfl rfl Try.underlying4 rfl ?_
              refine W.eqv (v' := .bool false) (rfl) ?_
              refine W.move rfl rfl ?_
              refine W.wants rfl rfl rfl rfl ?_
              refine W.move rfl rfl ?_
              refine W.wants rfl rfl rfl rfl ?_
              first | refine W.notD rfl rfl ?_ | refine W.notB rfl rfl ?_
              refine W.wants rfl rfl rfl rfl ?_
              refine W.move rfl rfl ?_
              refine W.wants rfl rfl rfl rfl ?_
              refine W.move rfl rfl ?_
              refine W.wants rfl rfl rfl rfl ?_
              refine W.call Try.call15 rfl (num_ok _ _) rfl ?_
              rintro v66 w66 ⟨rfl, rfl⟩
              refine W.wants rfl rfl rfl rfl ?_
              refine W.neqI rfl rfl rfl ?_
              refine W.eqv (bF (by decide)) ?_
              refine W.wants rfl rfl rfl rfl ?_
              refine W.pickT rfl rfl rfl ?_
              refine W.pickF rfl rfl rfl ?_
              refine W.nil ?_
              refine At.thenCode ?_
              refine C.condF rfl ?_
              refine C.skip ?_
              refine At.thenCode ?_
              refine C.seq ?_
              refine C.seq ?_
              refine C.region ?_
              refine W.move rfl rfl ?_
              first | refine W.notD rfl rfl ?_ | refine W.notB rfl rfl ?_
              refine W.nil ?_
              refine At.thenCode ?_
              refine C.condT rfl ?_
              refine C.region ?_
              refine W.move rfl rfl ?_
              refine W.move rfl rfl ?_
              refine W.lenS rfl Try.underlying23 rfl ?_
              first | refine W.addI rfl rfl (by omega) rfl ?_ | refine W.addW rfl rfl rfl ?_
              refine W.eqv (v' := .int .i64 (((bs ++ b).length : Nat) : Int)) (iV (by rw [List.length_append]; omega)) ?_
              refine W.assign rfl rfl ?_
              refine W.nil ?_
              refine At.thenCode ?_
              refine C.seq ?_
              refine C.region ?_
              refine W.move rfl rfl ?_
              refine W.call Try.call16 rfl (Disk.Bytes_ok _ _ _ _ _ (by assumption)) rfl ?_
              rintro v77 w77 ⟨⟨ao77, c77, rfl, hS77, hb77⟩, hX77⟩
              refine W.lenS rfl Try.underlying23 rfl ?_
              refine W.move rfl rfl ?_
              refine W.neqI rfl rfl rfl ?_
              refine W.eqv (bF (fun h => h rfl)) ?_
              refine W.nil ?_
              refine At.thenCode ?_
              refine C.condF rfl ?_
              refine C.skip ?_
              refine At.blockNormal ?_
              refine At.thenCode ?_
              refine C.region ?_
              refine W.move rfl rfl ?_
              first | refine W.addI rfl rfl (by omega) rfl ?_ | refine W.addW rfl rfl rfl ?_
              refine W.assign rfl rfl ?_
              refine W.nil ?_
              refine At.thenRound (i + 1, bs ++ b, F44) (Sub.cons (rfl) (Sub.cons (rfl) (Sub.cons (rfl) (Sub.cons (rfl) (Sub.cons (look_eq rfl (iV (by omega))) (Sub.nil)))))) (show Ext w _ ∧ (i + 1) ≤ l.length + 2 ∧ (bs ++ b).length ≤ 20 * (i + 1) ∧ (∀ k, (F44) k → w.heap.size ≤ k) ∧ Dk _ (F44) g (max 0 10000) ⟨10000, (bs ++ b), 0, l.drop (i + 1)⟩ from ?_) (show l.length + 2 - (i + 1) < l.length + 2 - i from ?_)
              · exact ⟨hX44.ext hX77, by omega, by rw [List.length_append]; omega, hF44, hD44.ext hX77⟩
              · omega
            · have hff : failB D = false := by rw [hD]; exact failB_ge (by omega)
              refine W.skips rfl rfl rfl rfl rfl rfl ?_
              refine W.skips rfl rfl rfl rfl rfl rfl ?_
              refine W.skips rfl rfl rfl rfl rfl rfl ?_
              refine W.skips rfl rfl rfl rfl rfl rfl ?_
              refine W.skips rfl rfl rfl rfl rfl rfl ?_
              refine W.pickF rfl rfl rfl ?_
              refine W.assign rfl rfl ?_
              refine W.nil ?_
              refine At.thenCode ?_
              refine C.seq ?_
              refine C.seq ?_
              refine C.region ?_
              refine W.move rfl rfl ?_
              refine W.call Try.call15 rfl (num_ok _ _) rfl ?_
              rintro v57 w57 ⟨rfl, rfl⟩
              refine W.eqlI rfl rfl rfl ?_
              refine W.eqv (bF (by decide)) ?_
              refine W.move rfl rfl ?_
              refine W.neqB rfl rfl Try.underlying4 rfl ?_
              refine W.eqv (v' := .bool false) (rfl) ?_
              refine W.move rfl rfl ?_
              refine W.wants rfl rfl rfl rfl ?_
              refine W.move rfl rfl ?_
              refine W.wants rfl rfl rfl rfl ?_
              first | refine W.notD rfl rfl ?_ | refine W.notB rfl rfl ?_
              refine W.wants rfl rfl rfl rfl ?_
              refine W.move rfl rfl ?_
              refine W.wants rfl rfl rfl rfl ?_
              refine W.move rfl rfl ?_
              refine W.wants rfl rfl rfl rfl ?_
              refine W.call Try.call15 rfl (num_ok _ _) rfl ?_
              rintro v66 w66 ⟨rfl, rfl⟩
              refine W.wants rfl rfl rfl rfl ?_
              refine W.neqI rfl rfl rfl ?_
              refine W.eqv (bF (by decide)) ?_
              refine W.wants rfl rfl rfl rfl ?_
              refine W.pickT rfl rfl rfl ?_
              refine W.pickF rfl rfl rfl ?_
              refine W.nil ?_
              refine At.thenCode ?_
              refine C.condF rfl ?_
              refine C.skip ?_
              refine At.thenCode ?_
              refine C.seq ?_
              refine C.seq ?_
              refine C.region ?_
              refine W.move rfl rfl ?_
              first | refine W.notD rfl rfl ?_ | refine W.notB rfl rfl ?_
              refine W.nil ?_
              refine At.thenCode ?_
              refine C.condT rfl ?_
              refine C.region ?_
              refine W.move rfl rfl ?_
              refine W.move rfl rfl ?_
              refine W.lenS rfl Try.underlying23 rfl ?_
              first | refine W.addI rfl rfl (by omega) rfl ?_ | refine W.addW rfl rfl rfl ?_
              refine W.eqv (v' := .int .i64 (((bs ++ b).length : Nat) : Int)) (iV (by rw [List.length_append]; omega)) ?_
              refine W.assign rfl rfl ?_
              refine W.nil ?_
              refine At.thenCode ?_
              refine C.seq ?_
              refine C.region ?_
              refine W.move rfl rfl ?_
              refine W.call Try.call16 rfl (Disk.Bytes_ok _ _ _ _ _ (by assumption)) rfl ?_
              rintro v77 w77 ⟨⟨ao77, c77, rfl, hS77, hb77⟩, hX77⟩
              refine W.lenS rfl Try.underlying23 rfl ?_
              refine W.move rfl rfl ?_
              refine W.neqI rfl rfl rfl ?_
              refine W.eqv (bF (fun h => h rfl)) ?_
              refine W.nil ?_
              refine At.thenCode ?_
              refine C.condF rfl ?_
              refine C.skip ?_
              refine At.blockNormal ?_
              refine At.thenCode ?_
              refine C.region ?_
              refine W.move rfl rfl ?_
              first | refine W.addI rfl rfl (by omega) rfl ?_ | refine W.addW rfl rfl rfl ?_
              refine W.assign rfl rfl ?_
              refine W.nil ?_
              refine At.thenRound (i + 1, bs ++ b, F44) (Sub.cons (rfl) (Sub.cons (rfl) (Sub.cons (rfl) (Sub.cons (rfl) (Sub.cons (look_eq rfl (iV (by omega))) (Sub.nil)))))) (show Ext w _ ∧ (i + 1) ≤ l.length + 2 ∧ (bs ++ b).length ≤ 20 * (i + 1) ∧ (∀ k, (F44) k → w.heap.size ≤ k) ∧ Dk _ (F44) g (max 0 10000) ⟨10000, (bs ++ b), 0, l.drop (i + 1)⟩ from ?_) (show l.length + 2 - (i + 1) < l.length + 2 - i from ?_)
              · exact ⟨hX44.ext hX77, by omega, by rw [List.length_append]; omega, hF44, hD44.ext hX77⟩
              · omega
        · refine C.exit ?_
          refine At.thenExit ?_
          refine At.thenExit ?_
          refine At.blockSelf ?_
          refine At.thenCode ?_
          refine C.seq ?_
          refine C.region ?_
          refine W.assign rfl rfl ?_
          refine W.nil ?_
          refine At.thenCode ?_
          refine C.ret ?_
          refine At.ret1 Try.results3 rfl ?_
          first | exact ⟨rfl, Ext.below hX1⟩ | exact ⟨rfl, Ext.below hX11⟩
theorem DiskSynced_walk (ao : Option Addr) (ca : Nat) (a : List UInt8) (ap : Option Addr) (cp : Nat) (b : List UInt8) (keep : Int) (w : World) (hA : Bs w ao ca a) (hal : a.length ≤ 9223372036854775807) (hB : Bs w ap cp b) (hbl : b.length ≤ 9223372036854775807) (hk : -9223372036854775808 ≤ keep ∧ keep ≤ 9223372036854775807) :
    Ct Try.prog 4 #[.slice ao a.length ca, .slice ap b.length cp, .int .i64 keep] w (LawOk w) := by
  refine Ct.enter [(0, .slice ao a.length ca), (1, .slice ap b.length cp), (2, .int .i64 keep)] Try.func4 rfl rfl rfl rfl ?_
  refine C.seq ?_
  refine C.region ?_
  refine W.assign rfl rfl ?_
  refine W.nil ?_
  refine At.thenCode ?_
  refine C.seq ?_
  refine C.region ?_
  refine W.call Try.call11 rfl (alive_ok _) rfl ?_
  rintro v11 w11 ⟨rfl, hX11⟩
  refine W.assign rfl rfl ?_
  refine W.nil ?_
  refine At.thenCode ?_
  refine C.seq ?_
  refine C.seq ?_
  refine C.region ?_
  refine W.move rfl rfl ?_
  first | refine W.notD rfl rfl ?_ | refine W.notB rfl rfl ?_
  refine W.move rfl rfl ?_
  refine W.wants rfl rfl rfl rfl ?_
  refine W.move rfl rfl ?_
  refine W.wants rfl rfl rfl rfl ?_
  refine W.lenS rfl Try.underlying23 rfl ?_
  refine W.wants rfl rfl rfl rfl ?_
  refine W.gtrI rfl rfl rfl ?_
  refine W.pickF rfl rfl rfl ?_
  refine W.move rfl rfl ?_
  first | refine W.splitD (fun g19 => ?_) (fun g19 => ?_) | refine W.splitB (fun g19 => ?_) (fun g19 => ?_)
  · refine W.skips rfl rfl rfl rfl rfl rfl ?_
    refine W.skips rfl rfl rfl rfl rfl rfl ?_
    refine W.skips rfl rfl rfl rfl rfl rfl ?_
    refine W.pickT rfl rfl rfl ?_
    refine W.nil ?_
    refine At.thenCode ?_
    refine C.condT rfl ?_
    refine C.seq ?_
    refine C.region ?_
    refine W.move rfl rfl ?_
    refine W.assign rfl rfl ?_
    refine W.nil ?_
    refine At.thenCode ?_
    refine C.ret ?_
    refine At.thenRet ?_
    refine At.ret1 Try.results4 rfl ?_
    first | exact ⟨rfl, Ext.below (hX58.ext hX16)⟩ | exact ⟨rfl, Ext.below hX11⟩
  · refine W.wants rfl rfl rfl rfl ?_
    refine W.move rfl rfl ?_
    refine W.wants rfl rfl rfl rfl ?_
    refine W.lenS rfl Try.underlying23 rfl ?_
    refine W.wants rfl rfl rfl rfl ?_
    refine W.gtrI rfl rfl rfl ?_
    refine W.pickF rfl rfl rfl ?_
    refine W.nil ?_
    refine At.thenCode ?_
    first | refine C.condD rfl (fun c23 => ?_) (fun c23 => ?_) | refine C.cond rfl (fun c23 => ?_) (fun c23 => ?_)
    · refine C.seq ?_
      refine C.region ?_
      refine W.move rfl rfl ?_
      refine W.assign rfl rfl ?_
      refine W.nil ?_
      refine At.thenCode ?_
      refine C.ret ?_
      refine At.thenRet ?_
      refine At.ret1 Try.results4 rfl ?_
      first | exact ⟨rfl, Ext.below (hX58.ext hX16)⟩ | exact ⟨rfl, Ext.below hX11⟩
    · refine C.skip ?_
      refine At.thenCode ?_
      refine C.seq ?_
      refine C.region ?_
      refine W.call Try.call12 rfl (Disk.New_ok 1000 _ (by decide)) rfl ?_
      rintro v25 w25 ⟨g, rfl, hD25, hX25⟩
      have hX25' := hX11.ext hX25
      have hF25 := grown_new (F := fun _ => False) (w := w) (w1 := w11) (w2 := w25) (fun k hk => hk.elim) hX11.size
      have harg : ∀ {q : Option Addr} {cq : Nat} {y : List UInt8} {F : Nat → Prop}, Bs w q cq y → (∀ k, F k → w.heap.size ≤ k) → ∀ ad, q = some ad → y ≠ [] → ¬ F ad.block := fun hy hF ad e hne hk => by
        have h1 := hF _ hk
        have h2 := Sl.blk hy e (by intro h; exact hne (List.map_eq_nil_iff.1 h))
        omega
      refine W.assign rfl rfl ?_
      refine W.nil ?_
      refine At.thenCode ?_
      refine C.seq ?_
      refine C.region ?_
      refine W.move rfl rfl ?_
      refine W.move rfl rfl ?_
      refine W.call Try.call14 rfl (Disk.Append_ok _ g _ _ _ _ a _ hD25 (by decide) (hA.ext hX25') (harg hA hF25) (by simp; omega)) rfl ?_
      rintro v28 w28 ⟨rfl, hD28, hc28⟩
      have hX28 : Ext w w28 := news hX25' hc28 hF25
      have hF28 := grown_new (w2 := w28) hF25 hX25'.size
      have e1 : appD ⟨(1000 : Int).toNat, [], 0, []⟩ a = ⟨1000, a, 0, []⟩ := by
        unfold appD; rw [if_neg (by rintro (h | h); · cases h
                                    · unfold Full at h; simp at h; omega)]; rfl
      rw [e1] at hD28
      refine W.nil ?_
      refine At.thenCode ?_
      refine C.seq ?_
      refine C.region ?_
      refine W.move rfl rfl ?_
      refine W.call Try.call17 rfl (Disk.Sync_ok _ g _ _ _ hD28) rfl ?_
      rintro v30 w30 ⟨rfl, hD30, hc30⟩
      have hX30 : Ext w w30 := news hX28 hc30 hF28
      have e2 : synD ⟨1000, a, 0, []⟩ = ⟨1000, a, a.length, []⟩ := by
        unfold synD; rw [if_neg (by intro h; cases h)]; rfl
      rw [e2] at hD30
      refine W.nil ?_
      refine At.thenCode ?_
      refine C.seq ?_
      refine C.region ?_
      refine W.move rfl rfl ?_
      refine W.move rfl rfl ?_
      refine W.call Try.call14 rfl (Disk.Append_ok _ g _ _ _ _ b _ hD30 (by decide) (hB.ext hX30) (harg hB hF28) (by simp only; omega)) rfl ?_
      rintro v33 w33 ⟨rfl, hD33, hc33⟩
      have hX33 : Ext w w33 := news hX30 hc33 hF28
      have hF33 := grown_new (w2 := w33) hF28 hX30.size
      have e3 : appD ⟨1000, a, a.length, []⟩ b = ⟨1000, a ++ b, a.length, []⟩ := by
        unfold appD; rw [if_neg (by rintro (h | h); · cases h
                                    · unfold Full at h; simp only at h; omega)]; rfl
      rw [e3] at hD33
      refine W.nil ?_
      refine At.thenCode ?_
      refine C.seq ?_
      refine C.region ?_
      refine W.move rfl rfl ?_
      refine W.move rfl rfl ?_
      refine W.call Try.call18 rfl (Disk.Crash_ok _ g _ _ keep _ hD33) rfl ?_
      rintro v36 w36 ⟨hD36, hc36⟩
      have hX36 : Ext w w36 := news hX33 hc36 hF33
      have hF36 := grown_new (w2 := w36) hF33 hX33.size
      obtain ⟨n, hn⟩ : ∃ n : Nat, (n : Int) = min (max 0 keep) (b.length : Int) := ⟨(min (max 0 keep) (b.length : Int)).toNat, by omega⟩
      have e4 : crashD ⟨1000, a ++ b, a.length, []⟩ keep = ⟨1000, a ++ b.take n, a.length + n, []⟩ := by
        have hkn : keepN ⟨1000, a ++ b, a.length, []⟩ keep = a.length + n := by
          unfold keepN; simp only [List.length_append]; omega
        unfold crashD
        rw [hkn]
        simp only
        rw [List.take_length_add_append]
      rw [e4] at hD36
      have hnl : n ≤ b.length := by omega
      have htl : (b.take n).length = n := by rw [List.length_take]; omega
      refine W.nil ?_
      refine At.thenCode ?_
      refine C.seq ?_
      refine C.region ?_
      refine W.move rfl rfl ?_
      refine W.assign rfl rfl ?_
      refine W.nil ?_
      refine At.thenCode ?_
      refine C.seq ?_
      refine C.seq ?_
      refine C.region ?_
      refine W.move rfl rfl ?_
      refine W.lssI rfl rfl rfl ?_
      refine W.nil ?_
      refine At.thenCode ?_
      first | refine C.condD rfl (fun c39 => ?_) (fun c39 => ?_) | refine C.cond rfl (fun c39 => ?_) (fun c39 => ?_)
      · refine C.region ?_
        refine W.assign rfl rfl ?_
        refine W.nil ?_
        refine At.thenCode ?_
        refine C.seq ?_
        refine C.seq ?_
        refine C.region ?_
        refine W.move rfl rfl ?_
        refine W.move rfl rfl ?_
        refine W.lenS rfl Try.underlying23 rfl ?_
        refine W.gtrI rfl rfl rfl ?_
        refine W.nil ?_
        refine At.thenCode ?_
        first | refine C.condD rfl (fun c43 => ?_) (fun c43 => ?_) | refine C.cond rfl (fun c43 => ?_) (fun c43 => ?_)
        · refine C.region ?_
          refine W.move rfl rfl ?_
          refine W.lenS rfl Try.underlying23 rfl ?_
          refine W.assign rfl rfl ?_
          refine W.nil ?_
          refine At.thenCode ?_
          refine C.seq ?_
          refine C.regionAny 12 ((fun v w => v = .pointer (some ⟨g, 0, none⟩)) :: (fun v w => Rep w v (a ++ b.take n)) :: (fun v w => v = strV (a ++ b.take n)) :: (fun v w => v = .slice ao a.length ca) :: (fun v w => v = strV a) :: (fun v w => v = .slice ap b.length cp) :: (fun v w => v = .int .i64 (n : Int)) :: (fun v w => ∃ q c, v = .slice q (b.take n).length c ∧ Bs w q c (b.take n)) :: (fun v w => v = strV (b.take n)) :: (fun v w => v = strV (a ++ b.take n)) :: (fun v w => v = .bool true) :: (fun v w => v = .bool true) :: []) [(0, .slice ao a.length ca), (1, .slice ap b.length cp), (8, .pointer (some ⟨g, 0, none⟩)), (9, .int .i64 (n : Int))] [] (Sub.cons (rfl) (Sub.cons (rfl) (Sub.cons (rfl) (Sub.cons (look_eq rfl (iV (by omega))) (Sub.nil))))) (Sub.nil) (Sub.cons (rfl) (Sub.cons (rfl) (Sub.cons (rfl) (Sub.cons (rfl) (Sub.nil))))) (by kernel_rfl) rfl rfl rfl (And.intro (fun _ _ _ h _ => h) (And.intro (fun _ _ _ h g => h.ext g) (And.intro (fun _ _ _ h _ => h) (And.intro (fun _ _ _ h _ => h) (And.intro (fun _ _ _ h _ => h) (And.intro (fun _ _ _ h _ => h) (And.intro (fun _ _ _ h _ => h) (And.intro (fun _ _ _ ⟨q, c, hv, h⟩ g => ⟨q, c, hv, Sl.ext h g⟩) (And.intro (fun _ _ _ h _ => h) (And.intro (fun _ _ _ h _ => h) (And.intro (fun _ _ _ h _ => h) (And.intro (fun _ _ _ h _ => h) (trivial))))))))))))) ?_ ?_
          · refine And.intro ?_ ?_
            · intro L_ w37 hX_ hs_ hf_ hd_
              refine W.step [(8, _)] (Sub.cons (hs_ _ _ rfl) (Sub.refl _)) ?_
              refine W.move rfl rfl ?_
              refine W.nil ?_
              exact At.step (Ext.refl _) rfl
            refine And.intro ?_ ?_
            · intro L_ w37 hX_ hs_ hf_ hd_
              obtain ⟨v0, e0, r0⟩ := hd_ 0 rfl
              obtain rfl : (.pointer (some ⟨g, 0, none⟩) : Value) = v0 := Eq.symm r0
              refine W.step [(46, _)] (Sub.cons (e0 _ rfl) (Sub.refl _)) ?_
              refine W.call Try.call16 rfl (Disk.Bytes_ok _ g _ _ _ (hD36.ext hX_)) rfl ?_
              rintro v47 w47 ⟨⟨ao47, c47, rfl, hS47, _⟩, hX47⟩
              refine W.nil ?_
              exact At.step hX47 ⟨_, _, rfl, hS47⟩
            refine And.intro ?_ ?_
            · intro L_ w37 hX_ hs_ hf_ hd_
              obtain ⟨v1, e1, r1⟩ := hd_ 1 rfl
              obtain ⟨ao47, c47, rfl, hS47⟩ := r1
              refine W.step [(47, _)] (Sub.cons (e1 _ rfl) (Sub.refl _)) ?_
              refine W.bytesStr Try.underlying23 Try.underlying5 Try.underlying9 rfl hS47 rfl ?_
              refine W.nil ?_
              exact At.step (Ext.refl _) rfl
            refine And.intro ?_ ?_
            · intro L_ w37 hX_ hs_ hf_ hd_
              refine W.step [(0, _)] (Sub.cons (hs_ _ _ rfl) (Sub.refl _)) ?_
              refine W.move rfl rfl ?_
              refine W.nil ?_
              exact At.step (Ext.refl _) rfl
            refine And.intro ?_ ?_
            · intro L_ w37 hX_ hs_ hf_ hd_
              obtain ⟨v3, e3, r3⟩ := hd_ 3 rfl
              obtain rfl : (.slice ao a.length ca : Value) = v3 := Eq.symm r3
              refine W.step [(49, _)] (Sub.cons (e3 _ rfl) (Sub.refl _)) ?_
              refine W.bytesStr Try.underlying23 Try.underlying5 Try.underlying9 rfl ((hA.ext hX36).ext hX_) rfl ?_
              refine W.nil ?_
              exact At.step (Ext.refl _) rfl
            refine And.intro ?_ ?_
            · intro L_ w37 hX_ hs_ hf_ hd_
              refine W.step [(1, _)] (Sub.cons (hs_ _ _ rfl) (Sub.refl _)) ?_
              refine W.move rfl rfl ?_
              refine W.nil ?_
              exact At.step (Ext.refl _) rfl
            refine And.intro ?_ ?_
            · intro L_ w37 hX_ hs_ hf_ hd_
              refine W.step [(9, _)] (Sub.cons (hs_ _ _ rfl) (Sub.refl _)) ?_
              refine W.move rfl rfl ?_
              refine W.nil ?_
              exact At.step (Ext.refl _) rfl
            refine And.intro ?_ ?_
            · intro L_ w37 hX_ hs_ hf_ hd_
              obtain ⟨v5, e5, r5⟩ := hd_ 5 rfl
              obtain rfl : (.slice ap b.length cp : Value) = v5 := Eq.symm r5
              obtain ⟨v6, e6, r6⟩ := hd_ 6 rfl
              obtain rfl : (.int .i64 (n : Int) : Value) = v6 := Eq.symm r6
              refine W.step [(51, _), (52, _)] (Sub.cons (e5 _ rfl) (Sub.cons (e6 _ rfl) (Sub.refl _))) ?_
              refine W.slice (lo := 0) (hi := n) E8 Try.underlying23 rfl ((hB.ext hX36).ext hX_) (.inl ⟨rfl, rfl⟩) (.inr ⟨_, .i64, rfl, rfl⟩) (by omega) hnl rfl ?_
              intro ao53 c53 hS53 _
              refine W.nil ?_
              exact At.step (Ext.refl _) ⟨ao53, c53, by rw [htl]; rfl, by show Sl _ _ _ _ _ _; rw [htl, List.map_take]; simpa using hS53⟩
            refine And.intro ?_ ?_
            · intro L_ w37 hX_ hs_ hf_ hd_
              obtain ⟨v7, e7, r7⟩ := hd_ 7 rfl
              obtain ⟨ao53, c53, rfl, hS53⟩ := r7
              refine W.step [(53, _)] (Sub.cons (e7 _ rfl) (Sub.refl _)) ?_
              refine W.bytesStr Try.underlying23 Try.underlying5 Try.underlying9 rfl hS53 rfl ?_
              refine W.nil ?_
              exact At.step (Ext.refl _) rfl
            refine And.intro ?_ ?_
            · intro L_ w37 hX_ hs_ hf_ hd_
              obtain ⟨v4, e4, r4⟩ := hd_ 4 rfl
              obtain rfl : (strV a : Value) = v4 := Eq.symm r4
              obtain ⟨v8, e8, r8⟩ := hd_ 8 rfl
              obtain rfl : (strV (b.take n) : Value) = v8 := Eq.symm r8
              refine W.step [(50, _), (54, _)] (Sub.cons (e4 _ rfl) (Sub.cons (e8 _ rfl) (Sub.refl _))) ?_
              refine W.addStr (a := a) (b := b.take n) rfl rfl (by omega) rfl ?_
              refine W.nil ?_
              exact At.step (Ext.refl _) rfl
            refine And.intro ?_ ?_
            · intro L_ w37 hX_ hs_ hf_ hd_
              obtain ⟨v2, e2, r2⟩ := hd_ 2 rfl
              obtain rfl : (strV (a ++ b.take n) : Value) = v2 := Eq.symm r2
              obtain ⟨v9, e9, r9⟩ := hd_ 9 rfl
              obtain rfl : (strV (a ++ b.take n) : Value) = v9 := Eq.symm r9
              refine W.step [(48, _), (55, _)] (Sub.cons (e2 _ rfl) (Sub.cons (e9 _ rfl) (Sub.refl _))) ?_
              refine W.eqlStr (a := a ++ b.take n) (b := a ++ b.take n) rfl rfl rfl ?_
              refine W.eqv (bT (rfl)) ?_
              refine W.nil ?_
              exact At.step (Ext.refl _) rfl
            refine And.intro ?_ ?_
            · intro L_ w37 hX_ hs_ hf_ hd_
              obtain ⟨v10, e10, r10⟩ := hd_ 10 rfl
              obtain rfl : (.bool true : Value) = v10 := Eq.symm r10
              refine W.step [(56, _)] (Sub.cons (e10 _ rfl) (Sub.refl _)) ?_
              refine W.assign rfl rfl ?_
              refine W.nil ?_
              exact At.step (Ext.refl _) rfl
            exact trivial
          · intro L_ w37 hX14 hs_ hv_
            obtain ⟨v11, e11, r11⟩ := hv_ 11 (by decide)
            obtain rfl : (.bool true : Value) = v11 := Eq.symm r11
            refine W.weaken (l' := [(10, _), (0, _), (1, _), (8, _), (9, _)]) (Sub.cons (e11 _ rfl) (Sub.cons (hs_ _ _ rfl) (Sub.cons (hs_ _ _ rfl) (Sub.cons (hs_ _ _ rfl) (Sub.cons (hs_ _ _ rfl) (Sub.nil)))))) ?_
            refine W.nil ?_
            refine At.thenCode ?_
            refine C.seq ?_
            refine C.region ?_
            refine W.move rfl rfl ?_
            have hD14 := hD36.ext hX14
            have hX14' := hX36.ext hX14
            refine W.call Try.call18 rfl (Disk.Crash_ok _ g _ _ 0 _ hD14) rfl ?_
            rintro v58 w58 ⟨hD58, hc58⟩
            have hX58 : Ext w w58 := news hX14' hc58 hF36
            have e5 : crashD ⟨1000, a ++ b.take n, a.length + n, []⟩ 0 = ⟨1000, a ++ b.take n, a.length + n, []⟩ := by
              have hkn : keepN ⟨1000, a ++ b.take n, a.length + n, []⟩ 0 = a.length + n := by
                unfold keepN; simp only [List.length_append]; omega
              unfold crashD
              rw [hkn]
              simp only
              rw [List.take_of_length_le (by rw [List.length_append]; omega)]
            rw [e5] at hD58
            refine W.nil ?_
            refine At.thenCode ?_
            refine C.seq ?_
            refine C.regionAny 15 ((fun v w => v = .bool true) :: (fun v w => v = .bool true) :: (fun v w => v = .pointer (some ⟨g, 0, none⟩)) :: (fun v w => Rep w v (a ++ b.take n)) :: (fun v w => v = strV (a ++ b.take n)) :: (fun v w => v = .slice ao a.length ca) :: (fun v w => v = strV a) :: (fun v w => v = .slice ap b.length cp) :: (fun v w => v = .int .i64 (n : Int)) :: (fun v w => ∃ q c, v = .slice q (b.take n).length c ∧ Bs w q c (b.take n)) :: (fun v w => v = strV (b.take n)) :: (fun v w => v = strV (a ++ b.take n)) :: (fun v w => v = .bool true) :: (fun v w => v = .bool true) :: (fun v w => v = .bool true) :: []) [(0, .slice ao a.length ca), (1, .slice ap b.length cp), (8, .pointer (some ⟨g, 0, none⟩)), (9, .int .i64 (n : Int)), (10, .bool true)] [] (Sub.cons (rfl) (Sub.cons (rfl) (Sub.cons (rfl) (Sub.cons (rfl) (Sub.cons (rfl) (Sub.nil)))))) (Sub.nil) (Sub.cons (rfl) (Sub.cons (rfl) (Sub.cons (rfl) (Sub.cons (rfl) (Sub.cons (rfl) (Sub.nil)))))) (by kernel_rfl) rfl rfl rfl (And.intro (fun _ _ _ h _ => h) (And.intro (fun _ _ _ h _ => h) (And.intro (fun _ _ _ h _ => h) (And.intro (fun _ _ _ h g => h.ext g) (And.intro (fun _ _ _ h _ => h) (And.intro (fun _ _ _ h _ => h) (And.intro (fun _ _ _ h _ => h) (And.intro (fun _ _ _ h _ => h) (And.intro (fun _ _ _ h _ => h) (And.intro (fun _ _ _ ⟨q, c, hv, h⟩ g => ⟨q, c, hv, Sl.ext h g⟩) (And.intro (fun _ _ _ h _ => h) (And.intro (fun _ _ _ h _ => h) (And.intro (fun _ _ _ h _ => h) (And.intro (fun _ _ _ h _ => h) (And.intro (fun _ _ _ h _ => h) (trivial)))))))))))))))) ?_ ?_
            · refine And.intro ?_ ?_
              · intro L_ w59 hX_ hs_ hf_ hd_
                refine W.step [(10, _)] (Sub.cons (hs_ _ _ rfl) (Sub.refl _)) ?_
                refine W.move rfl rfl ?_
                refine W.nil ?_
                exact At.step (Ext.refl _) rfl
              refine And.intro ?_ ?_
              · intro L_ w59 hX_ hs_ hf_ hd_
                obtain ⟨v0, e0, r0⟩ := hd_ 0 rfl
                obtain rfl : (.bool true : Value) = v0 := Eq.symm r0
                refine W.step [(59, _)] (Sub.cons (e0 _ rfl) (Sub.refl _)) ?_
                refine W.move rfl rfl ?_
                refine W.nil ?_
                exact At.step (Ext.refl _) rfl
              refine And.intro ?_ ?_
              · intro L_ w59 hX_ hs_ hf_ hd_
                obtain ⟨v1, e1, r1⟩ := hd_ 1 rfl
                obtain rfl : (.bool true : Value) = v1 := Eq.symm r1
                refine W.step [(8, _), (60, _)] (Sub.cons (hs_ _ _ rfl) (Sub.cons (e1 _ rfl) (Sub.refl _))) ?_
                refine W.wants rfl rfl rfl rfl ?_
                refine W.move rfl rfl ?_
                refine W.nil ?_
                exact At.step (Ext.refl _) rfl
              refine And.intro ?_ ?_
              · intro L_ w59 hX_ hs_ hf_ hd_
                obtain ⟨v2, e2, r2⟩ := hd_ 2 rfl
                obtain rfl : (.pointer (some ⟨g, 0, none⟩) : Value) = v2 := Eq.symm r2
                obtain ⟨v1, e1, r1⟩ := hd_ 1 rfl
                obtain rfl : (.bool true : Value) = v1 := Eq.symm r1
                refine W.step [(61, _), (60, _)] (Sub.cons (e2 _ rfl) (Sub.cons (e1 _ rfl) (Sub.refl _))) ?_
                refine W.wants rfl rfl rfl rfl ?_
                refine W.call Try.call16 rfl (Disk.Bytes_ok _ g _ _ _ (hD58.ext hX_)) rfl ?_
                rintro v62 w62 ⟨⟨ao62, c62, rfl, hS62, _⟩, hX62⟩
                refine W.nil ?_
                exact At.step hX62 ⟨_, _, rfl, hS62⟩
              refine And.intro ?_ ?_
              · intro L_ w59 hX_ hs_ hf_ hd_
                obtain ⟨v3, e3, r3⟩ := hd_ 3 rfl
                obtain ⟨ao62, c62, rfl, hS62⟩ := r3
                obtain ⟨v1, e1, r1⟩ := hd_ 1 rfl
                obtain rfl : (.bool true : Value) = v1 := Eq.symm r1
                refine W.step [(62, _), (60, _)] (Sub.cons (e3 _ rfl) (Sub.cons (e1 _ rfl) (Sub.refl _))) ?_
                refine W.wants rfl rfl rfl rfl ?_
                refine W.bytesStr Try.underlying23 Try.underlying5 Try.underlying9 rfl hS62 rfl ?_
                refine W.nil ?_
                exact At.step (Ext.refl _) rfl
              refine And.intro ?_ ?_
              · intro L_ w59 hX_ hs_ hf_ hd_
                obtain ⟨v1, e1, r1⟩ := hd_ 1 rfl
                obtain rfl : (.bool true : Value) = v1 := Eq.symm r1
                refine W.step [(0, _), (60, _)] (Sub.cons (hs_ _ _ rfl) (Sub.cons (e1 _ rfl) (Sub.refl _))) ?_
                refine W.wants rfl rfl rfl rfl ?_
                refine W.move rfl rfl ?_
                refine W.nil ?_
                exact At.step (Ext.refl _) rfl
              refine And.intro ?_ ?_
              · intro L_ w59 hX_ hs_ hf_ hd_
                obtain ⟨v5, e5, r5⟩ := hd_ 5 rfl
                obtain rfl : (.slice ao a.length ca : Value) = v5 := Eq.symm r5
                obtain ⟨v1, e1, r1⟩ := hd_ 1 rfl
                obtain rfl : (.bool true : Value) = v1 := Eq.symm r1
                refine W.step [(64, _), (60, _)] (Sub.cons (e5 _ rfl) (Sub.cons (e1 _ rfl) (Sub.refl _))) ?_
                refine W.wants rfl rfl rfl rfl ?_
                refine W.bytesStr Try.underlying23 Try.underlying5 Try.underlying9 rfl ((hA.ext hX58).ext hX_) rfl ?_
                refine W.nil ?_
                exact At.step (Ext.refl _) rfl
              refine And.intro ?_ ?_
              · intro L_ w59 hX_ hs_ hf_ hd_
                obtain ⟨v1, e1, r1⟩ := hd_ 1 rfl
                obtain rfl : (.bool true : Value) = v1 := Eq.symm r1
                refine W.step [(1, _), (60, _)] (Sub.cons (hs_ _ _ rfl) (Sub.cons (e1 _ rfl) (Sub.refl _))) ?_
                refine W.wants rfl rfl rfl rfl ?_
                refine W.move rfl rfl ?_
                refine W.nil ?_
                exact At.step (Ext.refl _) rfl
              refine And.intro ?_ ?_
              · intro L_ w59 hX_ hs_ hf_ hd_
                obtain ⟨v1, e1, r1⟩ := hd_ 1 rfl
                obtain rfl : (.bool true : Value) = v1 := Eq.symm r1
                refine W.step [(9, _), (60, _)] (Sub.cons (hs_ _ _ rfl) (Sub.cons (e1 _ rfl) (Sub.refl _))) ?_
                refine W.wants rfl rfl rfl rfl ?_
                refine W.move rfl rfl ?_
                refine W.nil ?_
                exact At.step (Ext.refl _) rfl
              refine And.intro ?_ ?_
              · intro L_ w59 hX_ hs_ hf_ hd_
                obtain ⟨v7, e7, r7⟩ := hd_ 7 rfl
                obtain rfl : (.slice ap b.length cp : Value) = v7 := Eq.symm r7
                obtain ⟨v8, e8, r8⟩ := hd_ 8 rfl
                obtain rfl : (.int .i64 (n : Int) : Value) = v8 := Eq.symm r8
                obtain ⟨v1, e1, r1⟩ := hd_ 1 rfl
                obtain rfl : (.bool true : Value) = v1 := Eq.symm r1
                refine W.step [(66, _), (67, _), (60, _)] (Sub.cons (e7 _ rfl) (Sub.cons (e8 _ rfl) (Sub.cons (e1 _ rfl) (Sub.refl _)))) ?_
                refine W.wants rfl rfl rfl rfl ?_
                refine W.slice (lo := 0) (hi := n) E8 Try.underlying23 rfl ((hB.ext hX58).ext hX_) (.inl ⟨rfl, rfl⟩) (.inr ⟨_, .i64, rfl, rfl⟩) (by omega) hnl rfl ?_
                intro ao68 c68 hS68 _
                refine W.nil ?_
                exact At.step (Ext.refl _) ⟨ao68, c68, by rw [htl]; rfl, by show Sl _ _ _ _ _ _; rw [htl, List.map_take]; simpa using hS68⟩
              refine And.intro ?_ ?_
              · intro L_ w59 hX_ hs_ hf_ hd_
                obtain ⟨v9, e9, r9⟩ := hd_ 9 rfl
                obtain ⟨ao68, c68, rfl, hS68⟩ := r9
                obtain ⟨v1, e1, r1⟩ := hd_ 1 rfl
                obtain rfl : (.bool true : Value) = v1 := Eq.symm r1
                refine W.step [(68, _), (60, _)] (Sub.cons (e9 _ rfl) (Sub.cons (e1 _ rfl) (Sub.refl _))) ?_
                refine W.wants rfl rfl rfl rfl ?_
                refine W.bytesStr Try.underlying23 Try.underlying5 Try.underlying9 rfl hS68 rfl ?_
                refine W.nil ?_
                exact At.step (Ext.refl _) rfl
              refine And.intro ?_ ?_
              · intro L_ w59 hX_ hs_ hf_ hd_
                obtain ⟨v6, e6, r6⟩ := hd_ 6 rfl
                obtain rfl : (strV a : Value) = v6 := Eq.symm r6
                obtain ⟨v10, e10, r10⟩ := hd_ 10 rfl
                obtain rfl : (strV (b.take n) : Value) = v10 := Eq.symm r10
                obtain ⟨v1, e1, r1⟩ := hd_ 1 rfl
                obtain rfl : (.bool true : Value) = v1 := Eq.symm r1
                refine W.step [(65, _), (69, _), (60, _)] (Sub.cons (e6 _ rfl) (Sub.cons (e10 _ rfl) (Sub.cons (e1 _ rfl) (Sub.refl _)))) ?_
                refine W.wants rfl rfl rfl rfl ?_
                refine W.addStr (a := a) (b := b.take n) rfl rfl (by omega) rfl ?_
                refine W.nil ?_
                exact At.step (Ext.refl _) rfl
              refine And.intro ?_ ?_
              · intro L_ w59 hX_ hs_ hf_ hd_
                obtain ⟨v4, e4, r4⟩ := hd_ 4 rfl
                obtain rfl : (strV (a ++ b.take n) : Value) = v4 := Eq.symm r4
                obtain ⟨v11, e11, r11⟩ := hd_ 11 rfl
                obtain rfl : (strV (a ++ b.take n) : Value) = v11 := Eq.symm r11
                obtain ⟨v1, e1, r1⟩ := hd_ 1 rfl
                obtain rfl : (.bool true : Value) = v1 := Eq.symm r1
                refine W.step [(63, _), (70, _), (60, _)] (Sub.cons (e4 _ rfl) (Sub.cons (e11 _ rfl) (Sub.cons (e1 _ rfl) (Sub.refl _)))) ?_
                refine W.wants rfl rfl rfl rfl ?_
                refine W.eqlStr (a := a ++ b.take n) (b := a ++ b.take n) rfl rfl rfl ?_
                refine W.eqv (bT (rfl)) ?_
                refine W.nil ?_
                exact At.step (Ext.refl _) rfl
              refine And.intro ?_ ?_
              · intro L_ w59 hX_ hs_ hf_ hd_
                obtain ⟨v1, e1, r1⟩ := hd_ 1 rfl
                obtain rfl : (.bool true : Value) = v1 := Eq.symm r1
                obtain ⟨v12, e12, r12⟩ := hd_ 12 rfl
                obtain rfl : (.bool true : Value) = v12 := Eq.symm r12
                refine W.step [(60, _), (71, _)] (Sub.cons (e1 _ rfl) (Sub.cons (e12 _ rfl) (Sub.refl _))) ?_
                refine W.pickT rfl rfl rfl ?_
                refine W.nil ?_
                exact At.step (Ext.refl _) rfl
              refine And.intro ?_ ?_
              · intro L_ w59 hX_ hs_ hf_ hd_
                obtain ⟨v13, e13, r13⟩ := hd_ 13 rfl
                obtain rfl : (.bool true : Value) = v13 := Eq.symm r13
                refine W.step [(72, _)] (Sub.cons (e13 _ rfl) (Sub.refl _)) ?_
                refine W.assign rfl rfl ?_
                refine W.nil ?_
                exact At.step (Ext.refl _) rfl
              exact trivial
            · intro L_ w59 hX16 hs_ hv_
              obtain ⟨v14, e14, r14⟩ := hv_ 14 (by decide)
              obtain rfl : (.bool true : Value) = v14 := Eq.symm r14
              refine W.weaken (l' := [(6, _), (0, _), (1, _), (8, _), (9, _), (10, _)]) (Sub.cons (e14 _ rfl) (Sub.cons (hs_ _ _ rfl) (Sub.cons (hs_ _ _ rfl) (Sub.cons (hs_ _ _ rfl) (Sub.cons (hs_ _ _ rfl) (Sub.cons (hs_ _ _ rfl) (Sub.nil))))))) ?_
              refine W.nil ?_
              refine At.thenCode ?_
              refine C.ret ?_
              refine At.ret1 Try.results4 rfl ?_
              first | exact ⟨rfl, Ext.below (hX58.ext hX16)⟩ | exact ⟨rfl, Ext.below hX11⟩
        · refine C.skip ?_
          refine At.thenCode ?_
          refine C.seq ?_
          refine C.regionAny 12 ((fun v w => v = .pointer (some ⟨g, 0, none⟩)) :: (fun v w => Rep w v (a ++ b.take n)) :: (fun v w => v = strV (a ++ b.take n)) :: (fun v w => v = .slice ao a.length ca) :: (fun v w => v = strV a) :: (fun v w => v = .slice ap b.length cp) :: (fun v w => v = .int .i64 (n : Int)) :: (fun v w => ∃ q c, v = .slice q (b.take n).length c ∧ Bs w q c (b.take n)) :: (fun v w => v = strV (b.take n)) :: (fun v w => v = strV (a ++ b.take n)) :: (fun v w => v = .bool true) :: (fun v w => v = .bool true) :: []) [(0, .slice ao a.length ca), (1, .slice ap b.length cp), (8, .pointer (some ⟨g, 0, none⟩)), (9, .int .i64 (n : Int))] [] (Sub.cons (rfl) (Sub.cons (rfl) (Sub.cons (rfl) (Sub.cons (look_eq rfl (iV (by omega))) (Sub.nil))))) (Sub.nil) (Sub.cons (rfl) (Sub.cons (rfl) (Sub.cons (rfl) (Sub.cons (rfl) (Sub.nil))))) (by kernel_rfl) rfl rfl rfl (And.intro (fun _ _ _ h _ => h) (And.intro (fun _ _ _ h g => h.ext g) (And.intro (fun _ _ _ h _ => h) (And.intro (fun _ _ _ h _ => h) (And.intro (fun _ _ _ h _ => h) (And.intro (fun _ _ _ h _ => h) (And.intro (fun _ _ _ h _ => h) (And.intro (fun _ _ _ ⟨q, c, hv, h⟩ g => ⟨q, c, hv, Sl.ext h g⟩) (And.intro (fun _ _ _ h _ => h) (And.intro (fun _ _ _ h _ => h) (And.intro (fun _ _ _ h _ => h) (And.intro (fun _ _ _ h _ => h) (trivial))))))))))))) ?_ ?_
          · refine And.intro ?_ ?_
            · intro L_ w37 hX_ hs_ hf_ hd_
              refine W.step [(8, _)] (Sub.cons (hs_ _ _ rfl) (Sub.refl _)) ?_
              refine W.move rfl rfl ?_
              refine W.nil ?_
              exact At.step (Ext.refl _) rfl
            refine And.intro ?_ ?_
            · intro L_ w37 hX_ hs_ hf_ hd_
              obtain ⟨v0, e0, r0⟩ := hd_ 0 rfl
              obtain rfl : (.pointer (some ⟨g, 0, none⟩) : Value) = v0 := Eq.symm r0
              refine W.step [(46, _)] (Sub.cons (e0 _ rfl) (Sub.refl _)) ?_
              refine W.call Try.call16 rfl (Disk.Bytes_ok _ g _ _ _ (hD36.ext hX_)) rfl ?_
              rintro v47 w47 ⟨⟨ao47, c47, rfl, hS47, _⟩, hX47⟩
              refine W.nil ?_
              exact At.step hX47 ⟨_, _, rfl, hS47⟩
            refine And.intro ?_ ?_
            · intro L_ w37 hX_ hs_ hf_ hd_
              obtain ⟨v1, e1, r1⟩ := hd_ 1 rfl
              obtain ⟨ao47, c47, rfl, hS47⟩ := r1
              refine W.step [(47, _)] (Sub.cons (e1 _ rfl) (Sub.refl _)) ?_
              refine W.bytesStr Try.underlying23 Try.underlying5 Try.underlying9 rfl hS47 rfl ?_
              refine W.nil ?_
              exact At.step (Ext.refl _) rfl
            refine And.intro ?_ ?_
            · intro L_ w37 hX_ hs_ hf_ hd_
              refine W.step [(0, _)] (Sub.cons (hs_ _ _ rfl) (Sub.refl _)) ?_
              refine W.move rfl rfl ?_
              refine W.nil ?_
              exact At.step (Ext.refl _) rfl
            refine And.intro ?_ ?_
            · intro L_ w37 hX_ hs_ hf_ hd_
              obtain ⟨v3, e3, r3⟩ := hd_ 3 rfl
              obtain rfl : (.slice ao a.length ca : Value) = v3 := Eq.symm r3
              refine W.step [(49, _)] (Sub.cons (e3 _ rfl) (Sub.refl _)) ?_
              refine W.bytesStr Try.underlying23 Try.underlying5 Try.underlying9 rfl ((hA.ext hX36).ext hX_) rfl ?_
              refine W.nil ?_
              exact At.step (Ext.refl _) rfl
            refine And.intro ?_ ?_
            · intro L_ w37 hX_ hs_ hf_ hd_
              refine W.step [(1, _)] (Sub.cons (hs_ _ _ rfl) (Sub.refl _)) ?_
              refine W.move rfl rfl ?_
              refine W.nil ?_
              exact At.step (Ext.refl _) rfl
            refine And.intro ?_ ?_
            · intro L_ w37 hX_ hs_ hf_ hd_
              refine W.step [(9, _)] (Sub.cons (hs_ _ _ rfl) (Sub.refl _)) ?_
              refine W.move rfl rfl ?_
              refine W.nil ?_
              exact At.step (Ext.refl _) rfl
            refine And.intro ?_ ?_
            · intro L_ w37 hX_ hs_ hf_ hd_
              obtain ⟨v5, e5, r5⟩ := hd_ 5 rfl
              obtain rfl : (.slice ap b.length cp : Value) = v5 := Eq.symm r5
              obtain ⟨v6, e6, r6⟩ := hd_ 6 rfl
              obtain rfl : (.int .i64 (n : Int) : Value) = v6 := Eq.symm r6
              refine W.step [(51, _), (52, _)] (Sub.cons (e5 _ rfl) (Sub.cons (e6 _ rfl) (Sub.refl _))) ?_
              refine W.slice (lo := 0) (hi := n) E8 Try.underlying23 rfl ((hB.ext hX36).ext hX_) (.inl ⟨rfl, rfl⟩) (.inr ⟨_, .i64, rfl, rfl⟩) (by omega) hnl rfl ?_
              intro ao53 c53 hS53 _
              refine W.nil ?_
              exact At.step (Ext.refl _) ⟨ao53, c53, by rw [htl]; rfl, by show Sl _ _ _ _ _ _; rw [htl, List.map_take]; simpa using hS53⟩
            refine And.intro ?_ ?_
            · intro L_ w37 hX_ hs_ hf_ hd_
              obtain ⟨v7, e7, r7⟩ := hd_ 7 rfl
              obtain ⟨ao53, c53, rfl, hS53⟩ := r7
              refine W.step [(53, _)] (Sub.cons (e7 _ rfl) (Sub.refl _)) ?_
              refine W.bytesStr Try.underlying23 Try.underlying5 Try.underlying9 rfl hS53 rfl ?_
              refine W.nil ?_
              exact At.step (Ext.refl _) rfl
            refine And.intro ?_ ?_
            · intro L_ w37 hX_ hs_ hf_ hd_
              obtain ⟨v4, e4, r4⟩ := hd_ 4 rfl
              obtain rfl : (strV a : Value) = v4 := Eq.symm r4
              obtain ⟨v8, e8, r8⟩ := hd_ 8 rfl
              obtain rfl : (strV (b.take n) : Value) = v8 := Eq.symm r8
              refine W.step [(50, _), (54, _)] (Sub.cons (e4 _ rfl) (Sub.cons (e8 _ rfl) (Sub.refl _))) ?_
              refine W.addStr (a := a) (b := b.take n) rfl rfl (by omega) rfl ?_
              refine W.nil ?_
              exact At.step (Ext.refl _) rfl
            refine And.intro ?_ ?_
            · intro L_ w37 hX_ hs_ hf_ hd_
              obtain ⟨v2, e2, r2⟩ := hd_ 2 rfl
              obtain rfl : (strV (a ++ b.take n) : Value) = v2 := Eq.symm r2
              obtain ⟨v9, e9, r9⟩ := hd_ 9 rfl
              obtain rfl : (strV (a ++ b.take n) : Value) = v9 := Eq.symm r9
              refine W.step [(48, _), (55, _)] (Sub.cons (e2 _ rfl) (Sub.cons (e9 _ rfl) (Sub.refl _))) ?_
              refine W.eqlStr (a := a ++ b.take n) (b := a ++ b.take n) rfl rfl rfl ?_
              refine W.eqv (bT (rfl)) ?_
              refine W.nil ?_
              exact At.step (Ext.refl _) rfl
            refine And.intro ?_ ?_
            · intro L_ w37 hX_ hs_ hf_ hd_
              obtain ⟨v10, e10, r10⟩ := hd_ 10 rfl
              obtain rfl : (.bool true : Value) = v10 := Eq.symm r10
              refine W.step [(56, _)] (Sub.cons (e10 _ rfl) (Sub.refl _)) ?_
              refine W.assign rfl rfl ?_
              refine W.nil ?_
              exact At.step (Ext.refl _) rfl
            exact trivial
          · intro L_ w37 hX14 hs_ hv_
            obtain ⟨v11, e11, r11⟩ := hv_ 11 (by decide)
            obtain rfl : (.bool true : Value) = v11 := Eq.symm r11
            refine W.weaken (l' := [(10, _), (0, _), (1, _), (8, _), (9, _)]) (Sub.cons (e11 _ rfl) (Sub.cons (hs_ _ _ rfl) (Sub.cons (hs_ _ _ rfl) (Sub.cons (hs_ _ _ rfl) (Sub.cons (hs_ _ _ rfl) (Sub.nil)))))) ?_
            refine W.nil ?_
            refine At.thenCode ?_
            refine C.seq ?_
            refine C.region ?_
            refine W.move rfl rfl ?_
            have hD14 := hD36.ext hX14
            have hX14' := hX36.ext hX14
            refine W.call Try.call18 rfl (Disk.Crash_ok _ g _ _ 0 _ hD14) rfl ?_
            rintro v58 w58 ⟨hD58, hc58⟩
            have hX58 : Ext w w58 := news hX14' hc58 hF36
            have e5 : crashD ⟨1000, a ++ b.take n, a.length + n, []⟩ 0 = ⟨1000, a ++ b.take n, a.length + n, []⟩ := by
              have hkn : keepN ⟨1000, a ++ b.take n, a.length + n, []⟩ 0 = a.length + n := by
                unfold keepN; simp only [List.length_append]; omega
              unfold crashD
              rw [hkn]
              simp only
              rw [List.take_of_length_le (by rw [List.length_append]; omega)]
            rw [e5] at hD58
            refine W.nil ?_
            refine At.thenCode ?_
            refine C.seq ?_
            refine C.regionAny 15 ((fun v w => v = .bool true) :: (fun v w => v = .bool true) :: (fun v w => v = .pointer (some ⟨g, 0, none⟩)) :: (fun v w => Rep w v (a ++ b.take n)) :: (fun v w => v = strV (a ++ b.take n)) :: (fun v w => v = .slice ao a.length ca) :: (fun v w => v = strV a) :: (fun v w => v = .slice ap b.length cp) :: (fun v w => v = .int .i64 (n : Int)) :: (fun v w => ∃ q c, v = .slice q (b.take n).length c ∧ Bs w q c (b.take n)) :: (fun v w => v = strV (b.take n)) :: (fun v w => v = strV (a ++ b.take n)) :: (fun v w => v = .bool true) :: (fun v w => v = .bool true) :: (fun v w => v = .bool true) :: []) [(0, .slice ao a.length ca), (1, .slice ap b.length cp), (8, .pointer (some ⟨g, 0, none⟩)), (9, .int .i64 (n : Int)), (10, .bool true)] [] (Sub.cons (rfl) (Sub.cons (rfl) (Sub.cons (rfl) (Sub.cons (rfl) (Sub.cons (rfl) (Sub.nil)))))) (Sub.nil) (Sub.cons (rfl) (Sub.cons (rfl) (Sub.cons (rfl) (Sub.cons (rfl) (Sub.cons (rfl) (Sub.nil)))))) (by kernel_rfl) rfl rfl rfl (And.intro (fun _ _ _ h _ => h) (And.intro (fun _ _ _ h _ => h) (And.intro (fun _ _ _ h _ => h) (And.intro (fun _ _ _ h g => h.ext g) (And.intro (fun _ _ _ h _ => h) (And.intro (fun _ _ _ h _ => h) (And.intro (fun _ _ _ h _ => h) (And.intro (fun _ _ _ h _ => h) (And.intro (fun _ _ _ h _ => h) (And.intro (fun _ _ _ ⟨q, c, hv, h⟩ g => ⟨q, c, hv, Sl.ext h g⟩) (And.intro (fun _ _ _ h _ => h) (And.intro (fun _ _ _ h _ => h) (And.intro (fun _ _ _ h _ => h) (And.intro (fun _ _ _ h _ => h) (And.intro (fun _ _ _ h _ => h) (trivial)))))))))))))))) ?_ ?_
            · refine And.intro ?_ ?_
              · intro L_ w59 hX_ hs_ hf_ hd_
                refine W.step [(10, _)] (Sub.cons (hs_ _ _ rfl) (Sub.refl _)) ?_
                refine W.move rfl rfl ?_
                refine W.nil ?_
                exact At.step (Ext.refl _) rfl
              refine And.intro ?_ ?_
              · intro L_ w59 hX_ hs_ hf_ hd_
                obtain ⟨v0, e0, r0⟩ := hd_ 0 rfl
                obtain rfl : (.bool true : Value) = v0 := Eq.symm r0
                refine W.step [(59, _)] (Sub.cons (e0 _ rfl) (Sub.refl _)) ?_
                refine W.move rfl rfl ?_
                refine W.nil ?_
                exact At.step (Ext.refl _) rfl
              refine And.intro ?_ ?_
              · intro L_ w59 hX_ hs_ hf_ hd_
                obtain ⟨v1, e1, r1⟩ := hd_ 1 rfl
                obtain rfl : (.bool true : Value) = v1 := Eq.symm r1
                refine W.step [(8, _), (60, _)] (Sub.cons (hs_ _ _ rfl) (Sub.cons (e1 _ rfl) (Sub.refl _))) ?_
                refine W.wants rfl rfl rfl rfl ?_
                refine W.move rfl rfl ?_
                refine W.nil ?_
                exact At.step (Ext.refl _) rfl
              refine And.intro ?_ ?_
              · intro L_ w59 hX_ hs_ hf_ hd_
                obtain ⟨v2, e2, r2⟩ := hd_ 2 rfl
                obtain rfl : (.pointer (some ⟨g, 0, none⟩) : Value) = v2 := Eq.symm r2
                obtain ⟨v1, e1, r1⟩ := hd_ 1 rfl
                obtain rfl : (.bool true : Value) = v1 := Eq.symm r1
                refine W.step [(61, _), (60, _)] (Sub.cons (e2 _ rfl) (Sub.cons (e1 _ rfl) (Sub.refl _))) ?_
                refine W.wants rfl rfl rfl rfl ?_
                refine W.call Try.call16 rfl (Disk.Bytes_ok _ g _ _ _ (hD58.ext hX_)) rfl ?_
                rintro v62 w62 ⟨⟨ao62, c62, rfl, hS62, _⟩, hX62⟩
                refine W.nil ?_
                exact At.step hX62 ⟨_, _, rfl, hS62⟩
              refine And.intro ?_ ?_
              · intro L_ w59 hX_ hs_ hf_ hd_
                obtain ⟨v3, e3, r3⟩ := hd_ 3 rfl
                obtain ⟨ao62, c62, rfl, hS62⟩ := r3
                obtain ⟨v1, e1, r1⟩ := hd_ 1 rfl
                obtain rfl : (.bool true : Value) = v1 := Eq.symm r1
                refine W.step [(62, _), (60, _)] (Sub.cons (e3 _ rfl) (Sub.cons (e1 _ rfl) (Sub.refl _))) ?_
                refine W.wants rfl rfl rfl rfl ?_
                refine W.bytesStr Try.underlying23 Try.underlying5 Try.underlying9 rfl hS62 rfl ?_
                refine W.nil ?_
                exact At.step (Ext.refl _) rfl
              refine And.intro ?_ ?_
              · intro L_ w59 hX_ hs_ hf_ hd_
                obtain ⟨v1, e1, r1⟩ := hd_ 1 rfl
                obtain rfl : (.bool true : Value) = v1 := Eq.symm r1
                refine W.step [(0, _), (60, _)] (Sub.cons (hs_ _ _ rfl) (Sub.cons (e1 _ rfl) (Sub.refl _))) ?_
                refine W.wants rfl rfl rfl rfl ?_
                refine W.move rfl rfl ?_
                refine W.nil ?_
                exact At.step (Ext.refl _) rfl
              refine And.intro ?_ ?_
              · intro L_ w59 hX_ hs_ hf_ hd_
                obtain ⟨v5, e5, r5⟩ := hd_ 5 rfl
                obtain rfl : (.slice ao a.length ca : Value) = v5 := Eq.symm r5
                obtain ⟨v1, e1, r1⟩ := hd_ 1 rfl
                obtain rfl : (.bool true : Value) = v1 := Eq.symm r1
                refine W.step [(64, _), (60, _)] (Sub.cons (e5 _ rfl) (Sub.cons (e1 _ rfl) (Sub.refl _))) ?_
                refine W.wants rfl rfl rfl rfl ?_
                refine W.bytesStr Try.underlying23 Try.underlying5 Try.underlying9 rfl ((hA.ext hX58).ext hX_) rfl ?_
                refine W.nil ?_
                exact At.step (Ext.refl _) rfl
              refine And.intro ?_ ?_
              · intro L_ w59 hX_ hs_ hf_ hd_
                obtain ⟨v1, e1, r1⟩ := hd_ 1 rfl
                obtain rfl : (.bool true : Value) = v1 := Eq.symm r1
                refine W.step [(1, _), (60, _)] (Sub.cons (hs_ _ _ rfl) (Sub.cons (e1 _ rfl) (Sub.refl _))) ?_
                refine W.wants rfl rfl rfl rfl ?_
                refine W.move rfl rfl ?_
                refine W.nil ?_
                exact At.step (Ext.refl _) rfl
              refine And.intro ?_ ?_
              · intro L_ w59 hX_ hs_ hf_ hd_
                obtain ⟨v1, e1, r1⟩ := hd_ 1 rfl
                obtain rfl : (.bool true : Value) = v1 := Eq.symm r1
                refine W.step [(9, _), (60, _)] (Sub.cons (hs_ _ _ rfl) (Sub.cons (e1 _ rfl) (Sub.refl _))) ?_
                refine W.wants rfl rfl rfl rfl ?_
                refine W.move rfl rfl ?_
                refine W.nil ?_
                exact At.step (Ext.refl _) rfl
              refine And.intro ?_ ?_
              · intro L_ w59 hX_ hs_ hf_ hd_
                obtain ⟨v7, e7, r7⟩ := hd_ 7 rfl
                obtain rfl : (.slice ap b.length cp : Value) = v7 := Eq.symm r7
                obtain ⟨v8, e8, r8⟩ := hd_ 8 rfl
                obtain rfl : (.int .i64 (n : Int) : Value) = v8 := Eq.symm r8
                obtain ⟨v1, e1, r1⟩ := hd_ 1 rfl
                obtain rfl : (.bool true : Value) = v1 := Eq.symm r1
                refine W.step [(66, _), (67, _), (60, _)] (Sub.cons (e7 _ rfl) (Sub.cons (e8 _ rfl) (Sub.cons (e1 _ rfl) (Sub.refl _)))) ?_
                refine W.wants rfl rfl rfl rfl ?_
                refine W.slice (lo := 0) (hi := n) E8 Try.underlying23 rfl ((hB.ext hX58).ext hX_) (.inl ⟨rfl, rfl⟩) (.inr ⟨_, .i64, rfl, rfl⟩) (by omega) hnl rfl ?_
                intro ao68 c68 hS68 _
                refine W.nil ?_
                exact At.step (Ext.refl _) ⟨ao68, c68, by rw [htl]; rfl, by show Sl _ _ _ _ _ _; rw [htl, List.map_take]; simpa using hS68⟩
              refine And.intro ?_ ?_
              · intro L_ w59 hX_ hs_ hf_ hd_
                obtain ⟨v9, e9, r9⟩ := hd_ 9 rfl
                obtain ⟨ao68, c68, rfl, hS68⟩ := r9
                obtain ⟨v1, e1, r1⟩ := hd_ 1 rfl
                obtain rfl : (.bool true : Value) = v1 := Eq.symm r1
                refine W.step [(68, _), (60, _)] (Sub.cons (e9 _ rfl) (Sub.cons (e1 _ rfl) (Sub.refl _))) ?_
                refine W.wants rfl rfl rfl rfl ?_
                refine W.bytesStr Try.underlying23 Try.underlying5 Try.underlying9 rfl hS68 rfl ?_
                refine W.nil ?_
                exact At.step (Ext.refl _) rfl
              refine And.intro ?_ ?_
              · intro L_ w59 hX_ hs_ hf_ hd_
                obtain ⟨v6, e6, r6⟩ := hd_ 6 rfl
                obtain rfl : (strV a : Value) = v6 := Eq.symm r6
                obtain ⟨v10, e10, r10⟩ := hd_ 10 rfl
                obtain rfl : (strV (b.take n) : Value) = v10 := Eq.symm r10
                obtain ⟨v1, e1, r1⟩ := hd_ 1 rfl
                obtain rfl : (.bool true : Value) = v1 := Eq.symm r1
                refine W.step [(65, _), (69, _), (60, _)] (Sub.cons (e6 _ rfl) (Sub.cons (e10 _ rfl) (Sub.cons (e1 _ rfl) (Sub.refl _)))) ?_
                refine W.wants rfl rfl rfl rfl ?_
                refine W.addStr (a := a) (b := b.take n) rfl rfl (by omega) rfl ?_
                refine W.nil ?_
                exact At.step (Ext.refl _) rfl
              refine And.intro ?_ ?_
              · intro L_ w59 hX_ hs_ hf_ hd_
                obtain ⟨v4, e4, r4⟩ := hd_ 4 rfl
                obtain rfl : (strV (a ++ b.take n) : Value) = v4 := Eq.symm r4
                obtain ⟨v11, e11, r11⟩ := hd_ 11 rfl
                obtain rfl : (strV (a ++ b.take n) : Value) = v11 := Eq.symm r11
                obtain ⟨v1, e1, r1⟩ := hd_ 1 rfl
                obtain rfl : (.bool true : Value) = v1 := Eq.symm r1
                refine W.step [(63, _), (70, _), (60, _)] (Sub.cons (e4 _ rfl) (Sub.cons (e11 _ rfl) (Sub.cons (e1 _ rfl) (Sub.refl _)))) ?_
                refine W.wants rfl rfl rfl rfl ?_
                refine W.eqlStr (a := a ++ b.take n) (b := a ++ b.take n) rfl rfl rfl ?_
                refine W.eqv (bT (rfl)) ?_
                refine W.nil ?_
                exact At.step (Ext.refl _) rfl
              refine And.intro ?_ ?_
              · intro L_ w59 hX_ hs_ hf_ hd_
                obtain ⟨v1, e1, r1⟩ := hd_ 1 rfl
                obtain rfl : (.bool true : Value) = v1 := Eq.symm r1
                obtain ⟨v12, e12, r12⟩ := hd_ 12 rfl
                obtain rfl : (.bool true : Value) = v12 := Eq.symm r12
                refine W.step [(60, _), (71, _)] (Sub.cons (e1 _ rfl) (Sub.cons (e12 _ rfl) (Sub.refl _))) ?_
                refine W.pickT rfl rfl rfl ?_
                refine W.nil ?_
                exact At.step (Ext.refl _) rfl
              refine And.intro ?_ ?_
              · intro L_ w59 hX_ hs_ hf_ hd_
                obtain ⟨v13, e13, r13⟩ := hd_ 13 rfl
                obtain rfl : (.bool true : Value) = v13 := Eq.symm r13
                refine W.step [(72, _)] (Sub.cons (e13 _ rfl) (Sub.refl _)) ?_
                refine W.assign rfl rfl ?_
                refine W.nil ?_
                exact At.step (Ext.refl _) rfl
              exact trivial
            · intro L_ w59 hX16 hs_ hv_
              obtain ⟨v14, e14, r14⟩ := hv_ 14 (by decide)
              obtain rfl : (.bool true : Value) = v14 := Eq.symm r14
              refine W.weaken (l' := [(6, _), (0, _), (1, _), (8, _), (9, _), (10, _)]) (Sub.cons (e14 _ rfl) (Sub.cons (hs_ _ _ rfl) (Sub.cons (hs_ _ _ rfl) (Sub.cons (hs_ _ _ rfl) (Sub.cons (hs_ _ _ rfl) (Sub.cons (hs_ _ _ rfl) (Sub.nil))))))) ?_
              refine W.nil ?_
              refine At.thenCode ?_
              refine C.ret ?_
              refine At.ret1 Try.results4 rfl ?_
              first | exact ⟨rfl, Ext.below (hX58.ext hX16)⟩ | exact ⟨rfl, Ext.below hX11⟩
      · refine C.skip ?_
        refine At.thenCode ?_
        refine C.seq ?_
        refine C.seq ?_
        refine C.region ?_
        refine W.move rfl rfl ?_
        refine W.move rfl rfl ?_
        refine W.lenS rfl Try.underlying23 rfl ?_
        refine W.gtrI rfl rfl rfl ?_
        refine W.nil ?_
        refine At.thenCode ?_
        first | refine C.condD rfl (fun c43 => ?_) (fun c43 => ?_) | refine C.cond rfl (fun c43 => ?_) (fun c43 => ?_)
        · refine C.region ?_
          refine W.move rfl rfl ?_
          refine W.lenS rfl Try.underlying23 rfl ?_
          refine W.assign rfl rfl ?_
          refine W.nil ?_
          refine At.thenCode ?_
          refine C.seq ?_
          refine C.regionAny 12 ((fun v w => v = .pointer (some ⟨g, 0, none⟩)) :: (fun v w => Rep w v (a ++ b.take n)) :: (fun v w => v = strV (a ++ b.take n)) :: (fun v w => v = .slice ao a.length ca) :: (fun v w => v = strV a) :: (fun v w => v = .slice ap b.length cp) :: (fun v w => v = .int .i64 (n : Int)) :: (fun v w => ∃ q c, v = .slice q (b.take n).length c ∧ Bs w q c (b.take n)) :: (fun v w => v = strV (b.take n)) :: (fun v w => v = strV (a ++ b.take n)) :: (fun v w => v = .bool true) :: (fun v w => v = .bool true) :: []) [(0, .slice ao a.length ca), (1, .slice ap b.length cp), (8, .pointer (some ⟨g, 0, none⟩)), (9, .int .i64 (n : Int))] [] (Sub.cons (rfl) (Sub.cons (rfl) (Sub.cons (rfl) (Sub.cons (look_eq rfl (iV (by omega))) (Sub.nil))))) (Sub.nil) (Sub.cons (rfl) (Sub.cons (rfl) (Sub.cons (rfl) (Sub.cons (rfl) (Sub.nil))))) (by kernel_rfl) rfl rfl rfl (And.intro (fun _ _ _ h _ => h) (And.intro (fun _ _ _ h g => h.ext g) (And.intro (fun _ _ _ h _ => h) (And.intro (fun _ _ _ h _ => h) (And.intro (fun _ _ _ h _ => h) (And.intro (fun _ _ _ h _ => h) (And.intro (fun _ _ _ h _ => h) (And.intro (fun _ _ _ ⟨q, c, hv, h⟩ g => ⟨q, c, hv, Sl.ext h g⟩) (And.intro (fun _ _ _ h _ => h) (And.intro (fun _ _ _ h _ => h) (And.intro (fun _ _ _ h _ => h) (And.intro (fun _ _ _ h _ => h) (trivial))))))))))))) ?_ ?_
          · refine And.intro ?_ ?_
            · intro L_ w37 hX_ hs_ hf_ hd_
              refine W.step [(8, _)] (Sub.cons (hs_ _ _ rfl) (Sub.refl _)) ?_
              refine W.move rfl rfl ?_
              refine W.nil ?_
              exact At.step (Ext.refl _) rfl
            refine And.intro ?_ ?_
            · intro L_ w37 hX_ hs_ hf_ hd_
              obtain ⟨v0, e0, r0⟩ := hd_ 0 rfl
              obtain rfl : (.pointer (some ⟨g, 0, none⟩) : Value) = v0 := Eq.symm r0
              refine W.step [(46, _)] (Sub.cons (e0 _ rfl) (Sub.refl _)) ?_
              refine W.call Try.call16 rfl (Disk.Bytes_ok _ g _ _ _ (hD36.ext hX_)) rfl ?_
              rintro v47 w47 ⟨⟨ao47, c47, rfl, hS47, _⟩, hX47⟩
              refine W.nil ?_
              exact At.step hX47 ⟨_, _, rfl, hS47⟩
            refine And.intro ?_ ?_
            · intro L_ w37 hX_ hs_ hf_ hd_
              obtain ⟨v1, e1, r1⟩ := hd_ 1 rfl
              obtain ⟨ao47, c47, rfl, hS47⟩ := r1
              refine W.step [(47, _)] (Sub.cons (e1 _ rfl) (Sub.refl _)) ?_
              refine W.bytesStr Try.underlying23 Try.underlying5 Try.underlying9 rfl hS47 rfl ?_
              refine W.nil ?_
              exact At.step (Ext.refl _) rfl
            refine And.intro ?_ ?_
            · intro L_ w37 hX_ hs_ hf_ hd_
              refine W.step [(0, _)] (Sub.cons (hs_ _ _ rfl) (Sub.refl _)) ?_
              refine W.move rfl rfl ?_
              refine W.nil ?_
              exact At.step (Ext.refl _) rfl
            refine And.intro ?_ ?_
            · intro L_ w37 hX_ hs_ hf_ hd_
              obtain ⟨v3, e3, r3⟩ := hd_ 3 rfl
              obtain rfl : (.slice ao a.length ca : Value) = v3 := Eq.symm r3
              refine W.step [(49, _)] (Sub.cons (e3 _ rfl) (Sub.refl _)) ?_
              refine W.bytesStr Try.underlying23 Try.underlying5 Try.underlying9 rfl ((hA.ext hX36).ext hX_) rfl ?_
              refine W.nil ?_
              exact At.step (Ext.refl _) rfl
            refine And.intro ?_ ?_
            · intro L_ w37 hX_ hs_ hf_ hd_
              refine W.step [(1, _)] (Sub.cons (hs_ _ _ rfl) (Sub.refl _)) ?_
              refine W.move rfl rfl ?_
              refine W.nil ?_
              exact At.step (Ext.refl _) rfl
            refine And.intro ?_ ?_
            · intro L_ w37 hX_ hs_ hf_ hd_
              refine W.step [(9, _)] (Sub.cons (hs_ _ _ rfl) (Sub.refl _)) ?_
              refine W.move rfl rfl ?_
              refine W.nil ?_
              exact At.step (Ext.refl _) rfl
            refine And.intro ?_ ?_
            · intro L_ w37 hX_ hs_ hf_ hd_
              obtain ⟨v5, e5, r5⟩ := hd_ 5 rfl
              obtain rfl : (.slice ap b.length cp : Value) = v5 := Eq.symm r5
              obtain ⟨v6, e6, r6⟩ := hd_ 6 rfl
              obtain rfl : (.int .i64 (n : Int) : Value) = v6 := Eq.symm r6
              refine W.step [(51, _), (52, _)] (Sub.cons (e5 _ rfl) (Sub.cons (e6 _ rfl) (Sub.refl _))) ?_
              refine W.slice (lo := 0) (hi := n) E8 Try.underlying23 rfl ((hB.ext hX36).ext hX_) (.inl ⟨rfl, rfl⟩) (.inr ⟨_, .i64, rfl, rfl⟩) (by omega) hnl rfl ?_
              intro ao53 c53 hS53 _
              refine W.nil ?_
              exact At.step (Ext.refl _) ⟨ao53, c53, by rw [htl]; rfl, by show Sl _ _ _ _ _ _; rw [htl, List.map_take]; simpa using hS53⟩
            refine And.intro ?_ ?_
            · intro L_ w37 hX_ hs_ hf_ hd_
              obtain ⟨v7, e7, r7⟩ := hd_ 7 rfl
              obtain ⟨ao53, c53, rfl, hS53⟩ := r7
              refine W.step [(53, _)] (Sub.cons (e7 _ rfl) (Sub.refl _)) ?_
              refine W.bytesStr Try.underlying23 Try.underlying5 Try.underlying9 rfl hS53 rfl ?_
              refine W.nil ?_
              exact At.step (Ext.refl _) rfl
            refine And.intro ?_ ?_
            · intro L_ w37 hX_ hs_ hf_ hd_
              obtain ⟨v4, e4, r4⟩ := hd_ 4 rfl
              obtain rfl : (strV a : Value) = v4 := Eq.symm r4
              obtain ⟨v8, e8, r8⟩ := hd_ 8 rfl
              obtain rfl : (strV (b.take n) : Value) = v8 := Eq.symm r8
              refine W.step [(50, _), (54, _)] (Sub.cons (e4 _ rfl) (Sub.cons (e8 _ rfl) (Sub.refl _))) ?_
              refine W.addStr (a := a) (b := b.take n) rfl rfl (by omega) rfl ?_
              refine W.nil ?_
              exact At.step (Ext.refl _) rfl
            refine And.intro ?_ ?_
            · intro L_ w37 hX_ hs_ hf_ hd_
              obtain ⟨v2, e2, r2⟩ := hd_ 2 rfl
              obtain rfl : (strV (a ++ b.take n) : Value) = v2 := Eq.symm r2
              obtain ⟨v9, e9, r9⟩ := hd_ 9 rfl
              obtain rfl : (strV (a ++ b.take n) : Value) = v9 := Eq.symm r9
              refine W.step [(48, _), (55, _)] (Sub.cons (e2 _ rfl) (Sub.cons (e9 _ rfl) (Sub.refl _))) ?_
              refine W.eqlStr (a := a ++ b.take n) (b := a ++ b.take n) rfl rfl rfl ?_
              refine W.eqv (bT (rfl)) ?_
              refine W.nil ?_
              exact At.step (Ext.refl _) rfl
            refine And.intro ?_ ?_
            · intro L_ w37 hX_ hs_ hf_ hd_
              obtain ⟨v10, e10, r10⟩ := hd_ 10 rfl
              obtain rfl : (.bool true : Value) = v10 := Eq.symm r10
              refine W.step [(56, _)] (Sub.cons (e10 _ rfl) (Sub.refl _)) ?_
              refine W.assign rfl rfl ?_
              refine W.nil ?_
              exact At.step (Ext.refl _) rfl
            exact trivial
          · intro L_ w37 hX14 hs_ hv_
            obtain ⟨v11, e11, r11⟩ := hv_ 11 (by decide)
            obtain rfl : (.bool true : Value) = v11 := Eq.symm r11
            refine W.weaken (l' := [(10, _), (0, _), (1, _), (8, _), (9, _)]) (Sub.cons (e11 _ rfl) (Sub.cons (hs_ _ _ rfl) (Sub.cons (hs_ _ _ rfl) (Sub.cons (hs_ _ _ rfl) (Sub.cons (hs_ _ _ rfl) (Sub.nil)))))) ?_
            refine W.nil ?_
            refine At.thenCode ?_
            refine C.seq ?_
            refine C.region ?_
            refine W.move rfl rfl ?_
            have hD14 := hD36.ext hX14
            have hX14' := hX36.ext hX14
            refine W.call Try.call18 rfl (Disk.Crash_ok _ g _ _ 0 _ hD14) rfl ?_
            rintro v58 w58 ⟨hD58, hc58⟩
            have hX58 : Ext w w58 := news hX14' hc58 hF36
            have e5 : crashD ⟨1000, a ++ b.take n, a.length + n, []⟩ 0 = ⟨1000, a ++ b.take n, a.length + n, []⟩ := by
              have hkn : keepN ⟨1000, a ++ b.take n, a.length + n, []⟩ 0 = a.length + n := by
                unfold keepN; simp only [List.length_append]; omega
              unfold crashD
              rw [hkn]
              simp only
              rw [List.take_of_length_le (by rw [List.length_append]; omega)]
            rw [e5] at hD58
            refine W.nil ?_
            refine At.thenCode ?_
            refine C.seq ?_
            refine C.regionAny 15 ((fun v w => v = .bool true) :: (fun v w => v = .bool true) :: (fun v w => v = .pointer (some ⟨g, 0, none⟩)) :: (fun v w => Rep w v (a ++ b.take n)) :: (fun v w => v = strV (a ++ b.take n)) :: (fun v w => v = .slice ao a.length ca) :: (fun v w => v = strV a) :: (fun v w => v = .slice ap b.length cp) :: (fun v w => v = .int .i64 (n : Int)) :: (fun v w => ∃ q c, v = .slice q (b.take n).length c ∧ Bs w q c (b.take n)) :: (fun v w => v = strV (b.take n)) :: (fun v w => v = strV (a ++ b.take n)) :: (fun v w => v = .bool true) :: (fun v w => v = .bool true) :: (fun v w => v = .bool true) :: []) [(0, .slice ao a.length ca), (1, .slice ap b.length cp), (8, .pointer (some ⟨g, 0, none⟩)), (9, .int .i64 (n : Int)), (10, .bool true)] [] (Sub.cons (rfl) (Sub.cons (rfl) (Sub.cons (rfl) (Sub.cons (rfl) (Sub.cons (rfl) (Sub.nil)))))) (Sub.nil) (Sub.cons (rfl) (Sub.cons (rfl) (Sub.cons (rfl) (Sub.cons (rfl) (Sub.cons (rfl) (Sub.nil)))))) (by kernel_rfl) rfl rfl rfl (And.intro (fun _ _ _ h _ => h) (And.intro (fun _ _ _ h _ => h) (And.intro (fun _ _ _ h _ => h) (And.intro (fun _ _ _ h g => h.ext g) (And.intro (fun _ _ _ h _ => h) (And.intro (fun _ _ _ h _ => h) (And.intro (fun _ _ _ h _ => h) (And.intro (fun _ _ _ h _ => h) (And.intro (fun _ _ _ h _ => h) (And.intro (fun _ _ _ ⟨q, c, hv, h⟩ g => ⟨q, c, hv, Sl.ext h g⟩) (And.intro (fun _ _ _ h _ => h) (And.intro (fun _ _ _ h _ => h) (And.intro (fun _ _ _ h _ => h) (And.intro (fun _ _ _ h _ => h) (And.intro (fun _ _ _ h _ => h) (trivial)))))))))))))))) ?_ ?_
            · refine And.intro ?_ ?_
              · intro L_ w59 hX_ hs_ hf_ hd_
                refine W.step [(10, _)] (Sub.cons (hs_ _ _ rfl) (Sub.refl _)) ?_
                refine W.move rfl rfl ?_
                refine W.nil ?_
                exact At.step (Ext.refl _) rfl
              refine And.intro ?_ ?_
              · intro L_ w59 hX_ hs_ hf_ hd_
                obtain ⟨v0, e0, r0⟩ := hd_ 0 rfl
                obtain rfl : (.bool true : Value) = v0 := Eq.symm r0
                refine W.step [(59, _)] (Sub.cons (e0 _ rfl) (Sub.refl _)) ?_
                refine W.move rfl rfl ?_
                refine W.nil ?_
                exact At.step (Ext.refl _) rfl
              refine And.intro ?_ ?_
              · intro L_ w59 hX_ hs_ hf_ hd_
                obtain ⟨v1, e1, r1⟩ := hd_ 1 rfl
                obtain rfl : (.bool true : Value) = v1 := Eq.symm r1
                refine W.step [(8, _), (60, _)] (Sub.cons (hs_ _ _ rfl) (Sub.cons (e1 _ rfl) (Sub.refl _))) ?_
                refine W.wants rfl rfl rfl rfl ?_
                refine W.move rfl rfl ?_
                refine W.nil ?_
                exact At.step (Ext.refl _) rfl
              refine And.intro ?_ ?_
              · intro L_ w59 hX_ hs_ hf_ hd_
                obtain ⟨v2, e2, r2⟩ := hd_ 2 rfl
                obtain rfl : (.pointer (some ⟨g, 0, none⟩) : Value) = v2 := Eq.symm r2
                obtain ⟨v1, e1, r1⟩ := hd_ 1 rfl
                obtain rfl : (.bool true : Value) = v1 := Eq.symm r1
                refine W.step [(61, _), (60, _)] (Sub.cons (e2 _ rfl) (Sub.cons (e1 _ rfl) (Sub.refl _))) ?_
                refine W.wants rfl rfl rfl rfl ?_
                refine W.call Try.call16 rfl (Disk.Bytes_ok _ g _ _ _ (hD58.ext hX_)) rfl ?_
                rintro v62 w62 ⟨⟨ao62, c62, rfl, hS62, _⟩, hX62⟩
                refine W.nil ?_
                exact At.step hX62 ⟨_, _, rfl, hS62⟩
              refine And.intro ?_ ?_
              · intro L_ w59 hX_ hs_ hf_ hd_
                obtain ⟨v3, e3, r3⟩ := hd_ 3 rfl
                obtain ⟨ao62, c62, rfl, hS62⟩ := r3
                obtain ⟨v1, e1, r1⟩ := hd_ 1 rfl
                obtain rfl : (.bool true : Value) = v1 := Eq.symm r1
                refine W.step [(62, _), (60, _)] (Sub.cons (e3 _ rfl) (Sub.cons (e1 _ rfl) (Sub.refl _))) ?_
                refine W.wants rfl rfl rfl rfl ?_
                refine W.bytesStr Try.underlying23 Try.underlying5 Try.underlying9 rfl hS62 rfl ?_
                refine W.nil ?_
                exact At.step (Ext.refl _) rfl
              refine And.intro ?_ ?_
              · intro L_ w59 hX_ hs_ hf_ hd_
                obtain ⟨v1, e1, r1⟩ := hd_ 1 rfl
                obtain rfl : (.bool true : Value) = v1 := Eq.symm r1
                refine W.step [(0, _), (60, _)] (Sub.cons (hs_ _ _ rfl) (Sub.cons (e1 _ rfl) (Sub.refl _))) ?_
                refine W.wants rfl rfl rfl rfl ?_
                refine W.move rfl rfl ?_
                refine W.nil ?_
                exact At.step (Ext.refl _) rfl
              refine And.intro ?_ ?_
              · intro L_ w59 hX_ hs_ hf_ hd_
                obtain ⟨v5, e5, r5⟩ := hd_ 5 rfl
                obtain rfl : (.slice ao a.length ca : Value) = v5 := Eq.symm r5
                obtain ⟨v1, e1, r1⟩ := hd_ 1 rfl
                obtain rfl : (.bool true : Value) = v1 := Eq.symm r1
                refine W.step [(64, _), (60, _)] (Sub.cons (e5 _ rfl) (Sub.cons (e1 _ rfl) (Sub.refl _))) ?_
                refine W.wants rfl rfl rfl rfl ?_
                refine W.bytesStr Try.underlying23 Try.underlying5 Try.underlying9 rfl ((hA.ext hX58).ext hX_) rfl ?_
                refine W.nil ?_
                exact At.step (Ext.refl _) rfl
              refine And.intro ?_ ?_
              · intro L_ w59 hX_ hs_ hf_ hd_
                obtain ⟨v1, e1, r1⟩ := hd_ 1 rfl
                obtain rfl : (.bool true : Value) = v1 := Eq.symm r1
                refine W.step [(1, _), (60, _)] (Sub.cons (hs_ _ _ rfl) (Sub.cons (e1 _ rfl) (Sub.refl _))) ?_
                refine W.wants rfl rfl rfl rfl ?_
                refine W.move rfl rfl ?_
                refine W.nil ?_
                exact At.step (Ext.refl _) rfl
              refine And.intro ?_ ?_
              · intro L_ w59 hX_ hs_ hf_ hd_
                obtain ⟨v1, e1, r1⟩ := hd_ 1 rfl
                obtain rfl : (.bool true : Value) = v1 := Eq.symm r1
                refine W.step [(9, _), (60, _)] (Sub.cons (hs_ _ _ rfl) (Sub.cons (e1 _ rfl) (Sub.refl _))) ?_
                refine W.wants rfl rfl rfl rfl ?_
                refine W.move rfl rfl ?_
                refine W.nil ?_
                exact At.step (Ext.refl _) rfl
              refine And.intro ?_ ?_
              · intro L_ w59 hX_ hs_ hf_ hd_
                obtain ⟨v7, e7, r7⟩ := hd_ 7 rfl
                obtain rfl : (.slice ap b.length cp : Value) = v7 := Eq.symm r7
                obtain ⟨v8, e8, r8⟩ := hd_ 8 rfl
                obtain rfl : (.int .i64 (n : Int) : Value) = v8 := Eq.symm r8
                obtain ⟨v1, e1, r1⟩ := hd_ 1 rfl
                obtain rfl : (.bool true : Value) = v1 := Eq.symm r1
                refine W.step [(66, _), (67, _), (60, _)] (Sub.cons (e7 _ rfl) (Sub.cons (e8 _ rfl) (Sub.cons (e1 _ rfl) (Sub.refl _)))) ?_
                refine W.wants rfl rfl rfl rfl ?_
                refine W.slice (lo := 0) (hi := n) E8 Try.underlying23 rfl ((hB.ext hX58).ext hX_) (.inl ⟨rfl, rfl⟩) (.inr ⟨_, .i64, rfl, rfl⟩) (by omega) hnl rfl ?_
                intro ao68 c68 hS68 _
                refine W.nil ?_
                exact At.step (Ext.refl _) ⟨ao68, c68, by rw [htl]; rfl, by show Sl _ _ _ _ _ _; rw [htl, List.map_take]; simpa using hS68⟩
              refine And.intro ?_ ?_
              · intro L_ w59 hX_ hs_ hf_ hd_
                obtain ⟨v9, e9, r9⟩ := hd_ 9 rfl
                obtain ⟨ao68, c68, rfl, hS68⟩ := r9
                obtain ⟨v1, e1, r1⟩ := hd_ 1 rfl
                obtain rfl : (.bool true : Value) = v1 := Eq.symm r1
                refine W.step [(68, _), (60, _)] (Sub.cons (e9 _ rfl) (Sub.cons (e1 _ rfl) (Sub.refl _))) ?_
                refine W.wants rfl rfl rfl rfl ?_
                refine W.bytesStr Try.underlying23 Try.underlying5 Try.underlying9 rfl hS68 rfl ?_
                refine W.nil ?_
                exact At.step (Ext.refl _) rfl
              refine And.intro ?_ ?_
              · intro L_ w59 hX_ hs_ hf_ hd_
                obtain ⟨v6, e6, r6⟩ := hd_ 6 rfl
                obtain rfl : (strV a : Value) = v6 := Eq.symm r6
                obtain ⟨v10, e10, r10⟩ := hd_ 10 rfl
                obtain rfl : (strV (b.take n) : Value) = v10 := Eq.symm r10
                obtain ⟨v1, e1, r1⟩ := hd_ 1 rfl
                obtain rfl : (.bool true : Value) = v1 := Eq.symm r1
                refine W.step [(65, _), (69, _), (60, _)] (Sub.cons (e6 _ rfl) (Sub.cons (e10 _ rfl) (Sub.cons (e1 _ rfl) (Sub.refl _)))) ?_
                refine W.wants rfl rfl rfl rfl ?_
                refine W.addStr (a := a) (b := b.take n) rfl rfl (by omega) rfl ?_
                refine W.nil ?_
                exact At.step (Ext.refl _) rfl
              refine And.intro ?_ ?_
              · intro L_ w59 hX_ hs_ hf_ hd_
                obtain ⟨v4, e4, r4⟩ := hd_ 4 rfl
                obtain rfl : (strV (a ++ b.take n) : Value) = v4 := Eq.symm r4
                obtain ⟨v11, e11, r11⟩ := hd_ 11 rfl
                obtain rfl : (strV (a ++ b.take n) : Value) = v11 := Eq.symm r11
                obtain ⟨v1, e1, r1⟩ := hd_ 1 rfl
                obtain rfl : (.bool true : Value) = v1 := Eq.symm r1
                refine W.step [(63, _), (70, _), (60, _)] (Sub.cons (e4 _ rfl) (Sub.cons (e11 _ rfl) (Sub.cons (e1 _ rfl) (Sub.refl _)))) ?_
                refine W.wants rfl rfl rfl rfl ?_
                refine W.eqlStr (a := a ++ b.take n) (b := a ++ b.take n) rfl rfl rfl ?_
                refine W.eqv (bT (rfl)) ?_
                refine W.nil ?_
                exact At.step (Ext.refl _) rfl
              refine And.intro ?_ ?_
              · intro L_ w59 hX_ hs_ hf_ hd_
                obtain ⟨v1, e1, r1⟩ := hd_ 1 rfl
                obtain rfl : (.bool true : Value) = v1 := Eq.symm r1
                obtain ⟨v12, e12, r12⟩ := hd_ 12 rfl
                obtain rfl : (.bool true : Value) = v12 := Eq.symm r12
                refine W.step [(60, _), (71, _)] (Sub.cons (e1 _ rfl) (Sub.cons (e12 _ rfl) (Sub.refl _))) ?_
                refine W.pickT rfl rfl rfl ?_
                refine W.nil ?_
                exact At.step (Ext.refl _) rfl
              refine And.intro ?_ ?_
              · intro L_ w59 hX_ hs_ hf_ hd_
                obtain ⟨v13, e13, r13⟩ := hd_ 13 rfl
                obtain rfl : (.bool true : Value) = v13 := Eq.symm r13
                refine W.step [(72, _)] (Sub.cons (e13 _ rfl) (Sub.refl _)) ?_
                refine W.assign rfl rfl ?_
                refine W.nil ?_
                exact At.step (Ext.refl _) rfl
              exact trivial
            · intro L_ w59 hX16 hs_ hv_
              obtain ⟨v14, e14, r14⟩ := hv_ 14 (by decide)
              obtain rfl : (.bool true : Value) = v14 := Eq.symm r14
              refine W.weaken (l' := [(6, _), (0, _), (1, _), (8, _), (9, _), (10, _)]) (Sub.cons (e14 _ rfl) (Sub.cons (hs_ _ _ rfl) (Sub.cons (hs_ _ _ rfl) (Sub.cons (hs_ _ _ rfl) (Sub.cons (hs_ _ _ rfl) (Sub.cons (hs_ _ _ rfl) (Sub.nil))))))) ?_
              refine W.nil ?_
              refine At.thenCode ?_
              refine C.ret ?_
              refine At.ret1 Try.results4 rfl ?_
              first | exact ⟨rfl, Ext.below (hX58.ext hX16)⟩ | exact ⟨rfl, Ext.below hX11⟩
        · refine C.skip ?_
          refine At.thenCode ?_
          refine C.seq ?_
          refine C.regionAny 12 ((fun v w => v = .pointer (some ⟨g, 0, none⟩)) :: (fun v w => Rep w v (a ++ b.take n)) :: (fun v w => v = strV (a ++ b.take n)) :: (fun v w => v = .slice ao a.length ca) :: (fun v w => v = strV a) :: (fun v w => v = .slice ap b.length cp) :: (fun v w => v = .int .i64 (n : Int)) :: (fun v w => ∃ q c, v = .slice q (b.take n).length c ∧ Bs w q c (b.take n)) :: (fun v w => v = strV (b.take n)) :: (fun v w => v = strV (a ++ b.take n)) :: (fun v w => v = .bool true) :: (fun v w => v = .bool true) :: []) [(0, .slice ao a.length ca), (1, .slice ap b.length cp), (8, .pointer (some ⟨g, 0, none⟩)), (9, .int .i64 (n : Int))] [] (Sub.cons (rfl) (Sub.cons (rfl) (Sub.cons (rfl) (Sub.cons (look_eq rfl (iV (by omega))) (Sub.nil))))) (Sub.nil) (Sub.cons (rfl) (Sub.cons (rfl) (Sub.cons (rfl) (Sub.cons (rfl) (Sub.nil))))) (by kernel_rfl) rfl rfl rfl (And.intro (fun _ _ _ h _ => h) (And.intro (fun _ _ _ h g => h.ext g) (And.intro (fun _ _ _ h _ => h) (And.intro (fun _ _ _ h _ => h) (And.intro (fun _ _ _ h _ => h) (And.intro (fun _ _ _ h _ => h) (And.intro (fun _ _ _ h _ => h) (And.intro (fun _ _ _ ⟨q, c, hv, h⟩ g => ⟨q, c, hv, Sl.ext h g⟩) (And.intro (fun _ _ _ h _ => h) (And.intro (fun _ _ _ h _ => h) (And.intro (fun _ _ _ h _ => h) (And.intro (fun _ _ _ h _ => h) (trivial))))))))))))) ?_ ?_
          · refine And.intro ?_ ?_
            · intro L_ w37 hX_ hs_ hf_ hd_
              refine W.step [(8, _)] (Sub.cons (hs_ _ _ rfl) (Sub.refl _)) ?_
              refine W.move rfl rfl ?_
              refine W.nil ?_
              exact At.step (Ext.refl _) rfl
            refine And.intro ?_ ?_
            · intro L_ w37 hX_ hs_ hf_ hd_
              obtain ⟨v0, e0, r0⟩ := hd_ 0 rfl
              obtain rfl : (.pointer (some ⟨g, 0, none⟩) : Value) = v0 := Eq.symm r0
              refine W.step [(46, _)] (Sub.cons (e0 _ rfl) (Sub.refl _)) ?_
              refine W.call Try.call16 rfl (Disk.Bytes_ok _ g _ _ _ (hD36.ext hX_)) rfl ?_
              rintro v47 w47 ⟨⟨ao47, c47, rfl, hS47, _⟩, hX47⟩
              refine W.nil ?_
              exact At.step hX47 ⟨_, _, rfl, hS47⟩
            refine And.intro ?_ ?_
            · intro L_ w37 hX_ hs_ hf_ hd_
              obtain ⟨v1, e1, r1⟩ := hd_ 1 rfl
              obtain ⟨ao47, c47, rfl, hS47⟩ := r1
              refine W.step [(47, _)] (Sub.cons (e1 _ rfl) (Sub.refl _)) ?_
              refine W.bytesStr Try.underlying23 Try.underlying5 Try.underlying9 rfl hS47 rfl ?_
              refine W.nil ?_
              exact At.step (Ext.refl _) rfl
            refine And.intro ?_ ?_
            · intro L_ w37 hX_ hs_ hf_ hd_
              refine W.step [(0, _)] (Sub.cons (hs_ _ _ rfl) (Sub.refl _)) ?_
              refine W.move rfl rfl ?_
              refine W.nil ?_
              exact At.step (Ext.refl _) rfl
            refine And.intro ?_ ?_
            · intro L_ w37 hX_ hs_ hf_ hd_
              obtain ⟨v3, e3, r3⟩ := hd_ 3 rfl
              obtain rfl : (.slice ao a.length ca : Value) = v3 := Eq.symm r3
              refine W.step [(49, _)] (Sub.cons (e3 _ rfl) (Sub.refl _)) ?_
              refine W.bytesStr Try.underlying23 Try.underlying5 Try.underlying9 rfl ((hA.ext hX36).ext hX_) rfl ?_
              refine W.nil ?_
              exact At.step (Ext.refl _) rfl
            refine And.intro ?_ ?_
            · intro L_ w37 hX_ hs_ hf_ hd_
              refine W.step [(1, _)] (Sub.cons (hs_ _ _ rfl) (Sub.refl _)) ?_
              refine W.move rfl rfl ?_
              refine W.nil ?_
              exact At.step (Ext.refl _) rfl
            refine And.intro ?_ ?_
            · intro L_ w37 hX_ hs_ hf_ hd_
              refine W.step [(9, _)] (Sub.cons (hs_ _ _ rfl) (Sub.refl _)) ?_
              refine W.move rfl rfl ?_
              refine W.nil ?_
              exact At.step (Ext.refl _) rfl
            refine And.intro ?_ ?_
            · intro L_ w37 hX_ hs_ hf_ hd_
              obtain ⟨v5, e5, r5⟩ := hd_ 5 rfl
              obtain rfl : (.slice ap b.length cp : Value) = v5 := Eq.symm r5
              obtain ⟨v6, e6, r6⟩ := hd_ 6 rfl
              obtain rfl : (.int .i64 (n : Int) : Value) = v6 := Eq.symm r6
              refine W.step [(51, _), (52, _)] (Sub.cons (e5 _ rfl) (Sub.cons (e6 _ rfl) (Sub.refl _))) ?_
              refine W.slice (lo := 0) (hi := n) E8 Try.underlying23 rfl ((hB.ext hX36).ext hX_) (.inl ⟨rfl, rfl⟩) (.inr ⟨_, .i64, rfl, rfl⟩) (by omega) hnl rfl ?_
              intro ao53 c53 hS53 _
              refine W.nil ?_
              exact At.step (Ext.refl _) ⟨ao53, c53, by rw [htl]; rfl, by show Sl _ _ _ _ _ _; rw [htl, List.map_take]; simpa using hS53⟩
            refine And.intro ?_ ?_
            · intro L_ w37 hX_ hs_ hf_ hd_
              obtain ⟨v7, e7, r7⟩ := hd_ 7 rfl
              obtain ⟨ao53, c53, rfl, hS53⟩ := r7
              refine W.step [(53, _)] (Sub.cons (e7 _ rfl) (Sub.refl _)) ?_
              refine W.bytesStr Try.underlying23 Try.underlying5 Try.underlying9 rfl hS53 rfl ?_
              refine W.nil ?_
              exact At.step (Ext.refl _) rfl
            refine And.intro ?_ ?_
            · intro L_ w37 hX_ hs_ hf_ hd_
              obtain ⟨v4, e4, r4⟩ := hd_ 4 rfl
              obtain rfl : (strV a : Value) = v4 := Eq.symm r4
              obtain ⟨v8, e8, r8⟩ := hd_ 8 rfl
              obtain rfl : (strV (b.take n) : Value) = v8 := Eq.symm r8
              refine W.step [(50, _), (54, _)] (Sub.cons (e4 _ rfl) (Sub.cons (e8 _ rfl) (Sub.refl _))) ?_
              refine W.addStr (a := a) (b := b.take n) rfl rfl (by omega) rfl ?_
              refine W.nil ?_
              exact At.step (Ext.refl _) rfl
            refine And.intro ?_ ?_
            · intro L_ w37 hX_ hs_ hf_ hd_
              obtain ⟨v2, e2, r2⟩ := hd_ 2 rfl
              obtain rfl : (strV (a ++ b.take n) : Value) = v2 := Eq.symm r2
              obtain ⟨v9, e9, r9⟩ := hd_ 9 rfl
              obtain rfl : (strV (a ++ b.take n) : Value) = v9 := Eq.symm r9
              refine W.step [(48, _), (55, _)] (Sub.cons (e2 _ rfl) (Sub.cons (e9 _ rfl) (Sub.refl _))) ?_
              refine W.eqlStr (a := a ++ b.take n) (b := a ++ b.take n) rfl rfl rfl ?_
              refine W.eqv (bT (rfl)) ?_
              refine W.nil ?_
              exact At.step (Ext.refl _) rfl
            refine And.intro ?_ ?_
            · intro L_ w37 hX_ hs_ hf_ hd_
              obtain ⟨v10, e10, r10⟩ := hd_ 10 rfl
              obtain rfl : (.bool true : Value) = v10 := Eq.symm r10
              refine W.step [(56, _)] (Sub.cons (e10 _ rfl) (Sub.refl _)) ?_
              refine W.assign rfl rfl ?_
              refine W.nil ?_
              exact At.step (Ext.refl _) rfl
            exact trivial
          · intro L_ w37 hX14 hs_ hv_
            obtain ⟨v11, e11, r11⟩ := hv_ 11 (by decide)
            obtain rfl : (.bool true : Value) = v11 := Eq.symm r11
            refine W.weaken (l' := [(10, _), (0, _), (1, _), (8, _), (9, _)]) (Sub.cons (e11 _ rfl) (Sub.cons (hs_ _ _ rfl) (Sub.cons (hs_ _ _ rfl) (Sub.cons (hs_ _ _ rfl) (Sub.cons (hs_ _ _ rfl) (Sub.nil)))))) ?_
            refine W.nil ?_
            refine At.thenCode ?_
            refine C.seq ?_
            refine C.region ?_
            refine W.move rfl rfl ?_
            have hD14 := hD36.ext hX14
            have hX14' := hX36.ext hX14
            refine W.call Try.call18 rfl (Disk.Crash_ok _ g _ _ 0 _ hD14) rfl ?_
            rintro v58 w58 ⟨hD58, hc58⟩
            have hX58 : Ext w w58 := news hX14' hc58 hF36
            have e5 : crashD ⟨1000, a ++ b.take n, a.length + n, []⟩ 0 = ⟨1000, a ++ b.take n, a.length + n, []⟩ := by
              have hkn : keepN ⟨1000, a ++ b.take n, a.length + n, []⟩ 0 = a.length + n := by
                unfold keepN; simp only [List.length_append]; omega
              unfold crashD
              rw [hkn]
              simp only
              rw [List.take_of_length_le (by rw [List.length_append]; omega)]
            rw [e5] at hD58
            refine W.nil ?_
            refine At.thenCode ?_
            refine C.seq ?_
            refine C.regionAny 15 ((fun v w => v = .bool true) :: (fun v w => v = .bool true) :: (fun v w => v = .pointer (some ⟨g, 0, none⟩)) :: (fun v w => Rep w v (a ++ b.take n)) :: (fun v w => v = strV (a ++ b.take n)) :: (fun v w => v = .slice ao a.length ca) :: (fun v w => v = strV a) :: (fun v w => v = .slice ap b.length cp) :: (fun v w => v = .int .i64 (n : Int)) :: (fun v w => ∃ q c, v = .slice q (b.take n).length c ∧ Bs w q c (b.take n)) :: (fun v w => v = strV (b.take n)) :: (fun v w => v = strV (a ++ b.take n)) :: (fun v w => v = .bool true) :: (fun v w => v = .bool true) :: (fun v w => v = .bool true) :: []) [(0, .slice ao a.length ca), (1, .slice ap b.length cp), (8, .pointer (some ⟨g, 0, none⟩)), (9, .int .i64 (n : Int)), (10, .bool true)] [] (Sub.cons (rfl) (Sub.cons (rfl) (Sub.cons (rfl) (Sub.cons (rfl) (Sub.cons (rfl) (Sub.nil)))))) (Sub.nil) (Sub.cons (rfl) (Sub.cons (rfl) (Sub.cons (rfl) (Sub.cons (rfl) (Sub.cons (rfl) (Sub.nil)))))) (by kernel_rfl) rfl rfl rfl (And.intro (fun _ _ _ h _ => h) (And.intro (fun _ _ _ h _ => h) (And.intro (fun _ _ _ h _ => h) (And.intro (fun _ _ _ h g => h.ext g) (And.intro (fun _ _ _ h _ => h) (And.intro (fun _ _ _ h _ => h) (And.intro (fun _ _ _ h _ => h) (And.intro (fun _ _ _ h _ => h) (And.intro (fun _ _ _ h _ => h) (And.intro (fun _ _ _ ⟨q, c, hv, h⟩ g => ⟨q, c, hv, Sl.ext h g⟩) (And.intro (fun _ _ _ h _ => h) (And.intro (fun _ _ _ h _ => h) (And.intro (fun _ _ _ h _ => h) (And.intro (fun _ _ _ h _ => h) (And.intro (fun _ _ _ h _ => h) (trivial)))))))))))))))) ?_ ?_
            · refine And.intro ?_ ?_
              · intro L_ w59 hX_ hs_ hf_ hd_
                refine W.step [(10, _)] (Sub.cons (hs_ _ _ rfl) (Sub.refl _)) ?_
                refine W.move rfl rfl ?_
                refine W.nil ?_
                exact At.step (Ext.refl _) rfl
              refine And.intro ?_ ?_
              · intro L_ w59 hX_ hs_ hf_ hd_
                obtain ⟨v0, e0, r0⟩ := hd_ 0 rfl
                obtain rfl : (.bool true : Value) = v0 := Eq.symm r0
                refine W.step [(59, _)] (Sub.cons (e0 _ rfl) (Sub.refl _)) ?_
                refine W.move rfl rfl ?_
                refine W.nil ?_
                exact At.step (Ext.refl _) rfl
              refine And.intro ?_ ?_
              · intro L_ w59 hX_ hs_ hf_ hd_
                obtain ⟨v1, e1, r1⟩ := hd_ 1 rfl
                obtain rfl : (.bool true : Value) = v1 := Eq.symm r1
                refine W.step [(8, _), (60, _)] (Sub.cons (hs_ _ _ rfl) (Sub.cons (e1 _ rfl) (Sub.refl _))) ?_
                refine W.wants rfl rfl rfl rfl ?_
                refine W.move rfl rfl ?_
                refine W.nil ?_
                exact At.step (Ext.refl _) rfl
              refine And.intro ?_ ?_
              · intro L_ w59 hX_ hs_ hf_ hd_
                obtain ⟨v2, e2, r2⟩ := hd_ 2 rfl
                obtain rfl : (.pointer (some ⟨g, 0, none⟩) : Value) = v2 := Eq.symm r2
                obtain ⟨v1, e1, r1⟩ := hd_ 1 rfl
                obtain rfl : (.bool true : Value) = v1 := Eq.symm r1
                refine W.step [(61, _), (60, _)] (Sub.cons (e2 _ rfl) (Sub.cons (e1 _ rfl) (Sub.refl _))) ?_
                refine W.wants rfl rfl rfl rfl ?_
                refine W.call Try.call16 rfl (Disk.Bytes_ok _ g _ _ _ (hD58.ext hX_)) rfl ?_
                rintro v62 w62 ⟨⟨ao62, c62, rfl, hS62, _⟩, hX62⟩
                refine W.nil ?_
                exact At.step hX62 ⟨_, _, rfl, hS62⟩
              refine And.intro ?_ ?_
              · intro L_ w59 hX_ hs_ hf_ hd_
                obtain ⟨v3, e3, r3⟩ := hd_ 3 rfl
                obtain ⟨ao62, c62, rfl, hS62⟩ := r3
                obtain ⟨v1, e1, r1⟩ := hd_ 1 rfl
                obtain rfl : (.bool true : Value) = v1 := Eq.symm r1
                refine W.step [(62, _), (60, _)] (Sub.cons (e3 _ rfl) (Sub.cons (e1 _ rfl) (Sub.refl _))) ?_
                refine W.wants rfl rfl rfl rfl ?_
                refine W.bytesStr Try.underlying23 Try.underlying5 Try.underlying9 rfl hS62 rfl ?_
                refine W.nil ?_
                exact At.step (Ext.refl _) rfl
              refine And.intro ?_ ?_
              · intro L_ w59 hX_ hs_ hf_ hd_
                obtain ⟨v1, e1, r1⟩ := hd_ 1 rfl
                obtain rfl : (.bool true : Value) = v1 := Eq.symm r1
                refine W.step [(0, _), (60, _)] (Sub.cons (hs_ _ _ rfl) (Sub.cons (e1 _ rfl) (Sub.refl _))) ?_
                refine W.wants rfl rfl rfl rfl ?_
                refine W.move rfl rfl ?_
                refine W.nil ?_
                exact At.step (Ext.refl _) rfl
              refine And.intro ?_ ?_
              · intro L_ w59 hX_ hs_ hf_ hd_
                obtain ⟨v5, e5, r5⟩ := hd_ 5 rfl
                obtain rfl : (.slice ao a.length ca : Value) = v5 := Eq.symm r5
                obtain ⟨v1, e1, r1⟩ := hd_ 1 rfl
                obtain rfl : (.bool true : Value) = v1 := Eq.symm r1
                refine W.step [(64, _), (60, _)] (Sub.cons (e5 _ rfl) (Sub.cons (e1 _ rfl) (Sub.refl _))) ?_
                refine W.wants rfl rfl rfl rfl ?_
                refine W.bytesStr Try.underlying23 Try.underlying5 Try.underlying9 rfl ((hA.ext hX58).ext hX_) rfl ?_
                refine W.nil ?_
                exact At.step (Ext.refl _) rfl
              refine And.intro ?_ ?_
              · intro L_ w59 hX_ hs_ hf_ hd_
                obtain ⟨v1, e1, r1⟩ := hd_ 1 rfl
                obtain rfl : (.bool true : Value) = v1 := Eq.symm r1
                refine W.step [(1, _), (60, _)] (Sub.cons (hs_ _ _ rfl) (Sub.cons (e1 _ rfl) (Sub.refl _))) ?_
                refine W.wants rfl rfl rfl rfl ?_
                refine W.move rfl rfl ?_
                refine W.nil ?_
                exact At.step (Ext.refl _) rfl
              refine And.intro ?_ ?_
              · intro L_ w59 hX_ hs_ hf_ hd_
                obtain ⟨v1, e1, r1⟩ := hd_ 1 rfl
                obtain rfl : (.bool true : Value) = v1 := Eq.symm r1
                refine W.step [(9, _), (60, _)] (Sub.cons (hs_ _ _ rfl) (Sub.cons (e1 _ rfl) (Sub.refl _))) ?_
                refine W.wants rfl rfl rfl rfl ?_
                refine W.move rfl rfl ?_
                refine W.nil ?_
                exact At.step (Ext.refl _) rfl
              refine And.intro ?_ ?_
              · intro L_ w59 hX_ hs_ hf_ hd_
                obtain ⟨v7, e7, r7⟩ := hd_ 7 rfl
                obtain rfl : (.slice ap b.length cp : Value) = v7 := Eq.symm r7
                obtain ⟨v8, e8, r8⟩ := hd_ 8 rfl
                obtain rfl : (.int .i64 (n : Int) : Value) = v8 := Eq.symm r8
                obtain ⟨v1, e1, r1⟩ := hd_ 1 rfl
                obtain rfl : (.bool true : Value) = v1 := Eq.symm r1
                refine W.step [(66, _), (67, _), (60, _)] (Sub.cons (e7 _ rfl) (Sub.cons (e8 _ rfl) (Sub.cons (e1 _ rfl) (Sub.refl _)))) ?_
                refine W.wants rfl rfl rfl rfl ?_
                refine W.slice (lo := 0) (hi := n) E8 Try.underlying23 rfl ((hB.ext hX58).ext hX_) (.inl ⟨rfl, rfl⟩) (.inr ⟨_, .i64, rfl, rfl⟩) (by omega) hnl rfl ?_
                intro ao68 c68 hS68 _
                refine W.nil ?_
                exact At.step (Ext.refl _) ⟨ao68, c68, by rw [htl]; rfl, by show Sl _ _ _ _ _ _; rw [htl, List.map_take]; simpa using hS68⟩
              refine And.intro ?_ ?_
              · intro L_ w59 hX_ hs_ hf_ hd_
                obtain ⟨v9, e9, r9⟩ := hd_ 9 rfl
                obtain ⟨ao68, c68, rfl, hS68⟩ := r9
                obtain ⟨v1, e1, r1⟩ := hd_ 1 rfl
                obtain rfl : (.bool true : Value) = v1 := Eq.symm r1
                refine W.step [(68, _), (60, _)] (Sub.cons (e9 _ rfl) (Sub.cons (e1 _ rfl) (Sub.refl _))) ?_
                refine W.wants rfl rfl rfl rfl ?_
                refine W.bytesStr Try.underlying23 Try.underlying5 Try.underlying9 rfl hS68 rfl ?_
                refine W.nil ?_
                exact At.step (Ext.refl _) rfl
              refine And.intro ?_ ?_
              · intro L_ w59 hX_ hs_ hf_ hd_
                obtain ⟨v6, e6, r6⟩ := hd_ 6 rfl
                obtain rfl : (strV a : Value) = v6 := Eq.symm r6
                obtain ⟨v10, e10, r10⟩ := hd_ 10 rfl
                obtain rfl : (strV (b.take n) : Value) = v10 := Eq.symm r10
                obtain ⟨v1, e1, r1⟩ := hd_ 1 rfl
                obtain rfl : (.bool true : Value) = v1 := Eq.symm r1
                refine W.step [(65, _), (69, _), (60, _)] (Sub.cons (e6 _ rfl) (Sub.cons (e10 _ rfl) (Sub.cons (e1 _ rfl) (Sub.refl _)))) ?_
                refine W.wants rfl rfl rfl rfl ?_
                refine W.addStr (a := a) (b := b.take n) rfl rfl (by omega) rfl ?_
                refine W.nil ?_
                exact At.step (Ext.refl _) rfl
              refine And.intro ?_ ?_
              · intro L_ w59 hX_ hs_ hf_ hd_
                obtain ⟨v4, e4, r4⟩ := hd_ 4 rfl
                obtain rfl : (strV (a ++ b.take n) : Value) = v4 := Eq.symm r4
                obtain ⟨v11, e11, r11⟩ := hd_ 11 rfl
                obtain rfl : (strV (a ++ b.take n) : Value) = v11 := Eq.symm r11
                obtain ⟨v1, e1, r1⟩ := hd_ 1 rfl
                obtain rfl : (.bool true : Value) = v1 := Eq.symm r1
                refine W.step [(63, _), (70, _), (60, _)] (Sub.cons (e4 _ rfl) (Sub.cons (e11 _ rfl) (Sub.cons (e1 _ rfl) (Sub.refl _)))) ?_
                refine W.wants rfl rfl rfl rfl ?_
                refine W.eqlStr (a := a ++ b.take n) (b := a ++ b.take n) rfl rfl rfl ?_
                refine W.eqv (bT (rfl)) ?_
                refine W.nil ?_
                exact At.step (Ext.refl _) rfl
              refine And.intro ?_ ?_
              · intro L_ w59 hX_ hs_ hf_ hd_
                obtain ⟨v1, e1, r1⟩ := hd_ 1 rfl
                obtain rfl : (.bool true : Value) = v1 := Eq.symm r1
                obtain ⟨v12, e12, r12⟩ := hd_ 12 rfl
                obtain rfl : (.bool true : Value) = v12 := Eq.symm r12
                refine W.step [(60, _), (71, _)] (Sub.cons (e1 _ rfl) (Sub.cons (e12 _ rfl) (Sub.refl _))) ?_
                refine W.pickT rfl rfl rfl ?_
                refine W.nil ?_
                exact At.step (Ext.refl _) rfl
              refine And.intro ?_ ?_
              · intro L_ w59 hX_ hs_ hf_ hd_
                obtain ⟨v13, e13, r13⟩ := hd_ 13 rfl
                obtain rfl : (.bool true : Value) = v13 := Eq.symm r13
                refine W.step [(72, _)] (Sub.cons (e13 _ rfl) (Sub.refl _)) ?_
                refine W.assign rfl rfl ?_
                refine W.nil ?_
                exact At.step (Ext.refl _) rfl
              exact trivial
            · intro L_ w59 hX16 hs_ hv_
              obtain ⟨v14, e14, r14⟩ := hv_ 14 (by decide)
              obtain rfl : (.bool true : Value) = v14 := Eq.symm r14
              refine W.weaken (l' := [(6, _), (0, _), (1, _), (8, _), (9, _), (10, _)]) (Sub.cons (e14 _ rfl) (Sub.cons (hs_ _ _ rfl) (Sub.cons (hs_ _ _ rfl) (Sub.cons (hs_ _ _ rfl) (Sub.cons (hs_ _ _ rfl) (Sub.cons (hs_ _ _ rfl) (Sub.nil))))))) ?_
              refine W.nil ?_
              refine At.thenCode ?_
              refine C.ret ?_
              refine At.ret1 Try.results4 rfl ?_
              first | exact ⟨rfl, Ext.below (hX58.ext hX16)⟩ | exact ⟨rfl, Ext.below hX11⟩
end Go.Proofs.Ytnldohjhjoldaaa.Law22
