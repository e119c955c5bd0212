/- Chapter 23: the walk of its law on fetches. -/
import Derived.Test.YthiijdbiikljpaaLaw23c
import Derived.Test.YthiijdbiikljpaaCodC
namespace Go.Proofs.Ythiijdbiikljpaa.Law23
open Go Go.RowKit Go.Proofs.Ythiijdbiikljpaa.KW Go.Proofs.Ythiijdbiikljpaa.Words Go.Proofs.Ythiijdbiikljpaa.Sha Go.Proofs.Ythiijdbiikljpaa.RSha Go.Proofs.Ythiijdbiikljpaa.Grp Go.Proofs.Ythiijdbiikljpaa.Cod Go.Proofs.Ythiijdbiikljpaa.Disk Go.Proofs.Ythiijdbiikljpaa.Mbx
set_option linter.unusedVariables false
set_option linter.unusedSimpArgs false
set_option maxRecDepth 100000
theorem MailboxFetches_walk (ao : Option Addr) (c : Nat) (ls : List Let) (ac : Option Addr) (cc : Nat) (cs : List Int) (k : List UInt8) (w : World) (hE : Els (fun _ => False) w 33 RLet ao c ls) (hl : ls.length ≤ 9223372036854775807) (hb : ∀ p ∈ ls, p.2.length ≤ 9223372036854775807) (hC : Sl w ac cs.length cc 1 (cs.map (.int .i64))) (hcl : cs.length ≤ 9223372036854775807) (hcb : ∀ x ∈ cs, -9223372036854775808 ≤ x ∧ x ≤ 9223372036854775807) (hk : k.length = 32) :
    Ct Try.prog 5 #[.slice ao ls.length c, .slice ac cs.length cc, .agg (k.map byteV).toArray] w (LawOk w) := by
  refine Ct.enter [(0, .slice ao ls.length c), (1, .slice ac cs.length cc), (2, .agg (k.map byteV).toArray)] Try.func5 rfl rfl rfl rfl ?_
  obtain ⟨hop0, hg0⟩ := Good.new 100000
  rw [show (⟨⟨100000, [], 0, []⟩, ⟨[], 0⟩, none⟩ : Box) = B0 100000 from rfl] at hop0 hg0
  refine C.seq ?_
  refine C.region ?_
  refine W.box (k.map byteV) rfl rfl rfl ?_
  intro g5 w5 hg5 hX5 hB5
  refine W.assign rfl rfl ?_
  refine W.nil ?_
  refine At.thenCode ?_
  refine C.seq ?_
  refine C.region ?_
  refine W.call Try.call8 rfl (Law23.alive_ok _) rfl ?_
  rintro v17 w17 ⟨rfl, hX17⟩
  have hXa := hX5.ext hX17
  have hB17 := hB5.ext hX17
  have hE17 : Els (fun q => w17.heap.size ≤ q) w17 33 RLet ao c ls := Els.new rLet (Els.ext rLet hE hXa) fun q hq hlt => by omega
  have hC17 := hC.ext hXa
  refine W.assign rfl rfl ?_
  refine W.nil ?_
  refine At.thenCode ?_
  refine C.seq ?_
  refine C.seq ?_
  refine C.region ?_
  refine W.move rfl rfl ?_
  first | refine W.notD rfl rfl ?_ | refine W.notB rfl rfl ?_
  refine W.eqv (v' := .bool false) (rfl) ?_
  refine W.move rfl rfl ?_
  refine W.wants rfl rfl rfl rfl ?_
  refine W.move rfl rfl ?_
  refine W.wants rfl rfl rfl rfl ?_
  refine W.lenS rfl Try.underlying31 rfl ?_
  refine W.wants rfl rfl rfl rfl ?_
  refine W.gtrI rfl rfl rfl ?_
  refine W.pickF rfl rfl rfl ?_
  refine W.move rfl rfl ?_
  first | refine W.splitD (fun g25 => ?_) (fun g25 => ?_) | refine W.splitB (fun g25 => ?_) (fun g25 => ?_)
  · refine W.skips rfl rfl rfl rfl rfl rfl ?_
    refine W.skips rfl rfl rfl rfl rfl rfl ?_
    refine W.skips rfl rfl rfl rfl rfl rfl ?_
    refine W.pickT rfl rfl rfl ?_
    refine W.nil ?_
    refine At.thenCode ?_
    refine C.condT rfl ?_
    refine C.seq ?_
    refine C.region ?_
    refine W.move rfl rfl ?_
    refine W.assign rfl rfl ?_
    refine W.nil ?_
    refine At.thenCode ?_
    refine C.ret ?_
    refine At.thenRet ?_
    refine At.ret1 Try.results5 rfl ?_
    first
    | exact ⟨rfl, Ext.below (((hXa.ext hL1.ext).ext (hX120.ext hX122)).ext hX126)⟩
    | exact ⟨rfl, Ext.below ((hXa.ext hL1.ext).ext (hX2.ext hX20))⟩
    | exact ⟨rfl, Ext.below hXa⟩
  · refine W.wants rfl rfl rfl rfl ?_
    refine W.move rfl rfl ?_
    refine W.wants rfl rfl rfl rfl ?_
    refine W.lenS rfl Try.underlying22 rfl ?_
    refine W.wants rfl rfl rfl rfl ?_
    refine W.gtrI rfl rfl rfl ?_
    refine W.pickF rfl rfl rfl ?_
    refine W.nil ?_
    refine At.thenCode ?_
    first | refine C.condD rfl (fun c29 => ?_) (fun c29 => ?_) | refine C.cond rfl (fun c29 => ?_) (fun c29 => ?_)
    · refine C.seq ?_
      refine C.region ?_
      refine W.move rfl rfl ?_
      refine W.assign rfl rfl ?_
      refine W.nil ?_
      refine At.thenCode ?_
      refine C.ret ?_
      refine At.thenRet ?_
      refine At.ret1 Try.results5 rfl ?_
      first
      | exact ⟨rfl, Ext.below (((hXa.ext hL1.ext).ext (hX120.ext hX122)).ext hX126)⟩
      | exact ⟨rfl, Ext.below ((hXa.ext hL1.ext).ext (hX2.ext hX20))⟩
      | exact ⟨rfl, Ext.below hXa⟩
    · have hn : ls.length ≤ 20 := by omega
      have hcn : cs.length ≤ 10 := by omega
      refine C.skip ?_
      refine At.thenCode ?_
      refine C.seq ?_
      refine C.region ?_
      refine W.call Try.call9 rfl (LiveD.New (w0 := w17) (Y := fun _ => False) 100000 (Ext.refl _) (fun _ h => h.elim) (by decide)) rfl ?_
      rintro v31 w31 ⟨dg, rfl, hD31, hX31⟩
      refine W.call Try.call10 rfl (hD31.Open (Nat.zero_le _)) rfl ?_
      rintro v32 w32 ⟨g, rfl, hL32, hC32⟩
      have hL32 : Live w17 w32 (fun _ => False) g dg (max 0 100000) (B0 100000) := by have := hL32; rwa [show (100000 : Int).toNat = 100000 from rfl, hop0] at this
      refine W.assign rfl rfl ?_
      refine W.nil ?_
      refine At.thenCode ?_
      refine C.seq ?_
      refine C.region ?_
      refine W.assign rfl rfl ?_
      refine W.nil ?_
      refine At.thenCode ?_
      refine C.seq ?_
      refine C.region ?_
      refine W.assign rfl rfl ?_
      refine W.nil ?_
      refine At.thenCode ?_
      refine C.seq ?_
      refine C.seq ?_
      refine C.region ?_
      refine W.assign rfl rfl ?_
      refine W.nil ?_
      refine At.thenCode ?_
      refine C.block ?_
      refine C.loop (X := Nat × Nat × Value × Box × ((List (List UInt8))) × ((Nat → Prop))) (fun x_ => [(0, .slice ao ls.length c), (1, .slice ac cs.length cc), (5, .pointer (some ⟨g5, 0, none⟩)), (8, .pointer (some ⟨g, 0, none⟩)), (9, .int .i64 (x_.2.1 : Int)), (10, x_.2.2.1), (11, .int .i64 (x_.1 : Int))]) (fun x_ w1 => x_.1 ≤ cs.length + 1 ∧ x_.2.1 ≤ ls.length ∧ (cs.length < x_.1 → x_.2.1 = ls.length) ∧ Live w17 w1 x_.2.2.2.2.2 g dg (max 0 100000) x_.2.2.2.1 ∧ FetP k x_.1 (wantL k (ls.take x_.2.1)) x_.2.2.2.1 x_.2.2.2.2.1 ∧ OwE (fun q_ => w17.heap.size ≤ q_) w1 w17.heap.size 53 33 RLet x_.2.2.1 (wantL k (ls.take x_.2.1)) ∧ (∀ q_, x_.2.2.1.ownBlock = some q_ → x_.2.2.2.2.2 q_)) (fun x_ => cs.length + 1 - x_.1) (0, 0, Value.slice none 0 0, B0 100000, [], fun _ => False) (Sub.cons (rfl) (Sub.cons (rfl) (Sub.cons (rfl) (Sub.cons (rfl) (Sub.cons (rfl) (Sub.cons (rfl) (Sub.cons (rfl) (Sub.nil)))))))) ?start1 ?_
      case start1 =>
        show (0) ≤ cs.length + 1 ∧ (0) ≤ ls.length ∧ (cs.length < (0) → (0) = ls.length) ∧ Live w17 _ (fun _ => False) g dg (max 0 100000) (B0 100000) ∧ FetP k (0) (wantL k (ls.take (0))) (B0 100000) ([]) ∧ OwE (fun q_ => w17.heap.size ≤ q_) _ w17.heap.size 53 33 RLet (Value.slice none 0 0) (wantL k (ls.take (0))) ∧ (∀ q_, (Value.slice none 0 0).ownBlock = some q_ → (fun _ => False) q_)
        exact ⟨by omega, by omega, fun h => by omega, hL32, ⟨hg0, rfl, Nat.zero_le _, rfl, fun x hx => by simp [B0] at hx, Nat.zero_le _, rfl⟩, OwE.nil _ _ _ _ _ _, fun q hq => by cases hq⟩
      rintro ⟨r, n, v, B, ps, Y⟩ w1 hI_
      replace hI_ : r ≤ cs.length + 1 ∧ n ≤ ls.length ∧ (cs.length < r → n = ls.length) ∧ Live w17 w1 Y g dg (max 0 100000) B ∧ FetP k r (wantL k (ls.take n)) B ps ∧ OwE (fun q_ => w17.heap.size ≤ q_) w1 w17.heap.size 53 33 RLet v (wantL k (ls.take n)) ∧ (∀ q_, v.ownBlock = some q_ → Y q_) := hI_
      obtain ⟨hr, hnl, hlast, hL1, hF1, hO1, hvY⟩ := hI_
      refine C.weaken (l' := [(0, .slice ao ls.length c), (1, .slice ac cs.length cc), (5, .pointer (some ⟨g5, 0, none⟩)), (8, .pointer (some ⟨g, 0, none⟩)), (9, .int .i64 (n : Int)), (10, v), (11, .int .i64 (r : Int))]) (Sub.cons (rfl) (Sub.cons (rfl) (Sub.cons (rfl) (Sub.cons (rfl) (Sub.cons (rfl) (Sub.cons (rfl) (Sub.cons (rfl) (Sub.nil)))))))) ?_
      refine C.seq ?_
      refine C.seq ?_
      refine C.region ?_
      refine W.move rfl rfl ?_
      refine W.move rfl rfl ?_
      refine W.lenS rfl Try.underlying22 rfl ?_
      refine W.leqI rfl rfl rfl ?_
      refine W.nil ?_
      refine At.thenCode ?_
      first | refine C.condD rfl (fun c36 => ?_) (fun c36 => ?_) | refine C.cond rfl (fun c36 => ?_) (fun c36 => ?_)
      · have hr' : r ≤ cs.length := by omega
        have hw17 := hL1.ext.size
        refine C.skip ?_
        refine At.thenCode ?_
        refine C.seq ?_
        refine C.block ?_
        refine C.seq ?_
        refine C.region ?_
        refine W.move rfl rfl ?_
        refine W.lenS rfl Try.underlying31 rfl ?_
        refine W.assign rfl rfl ?_
        refine W.nil ?_
        refine At.thenCode ?_
        refine C.seq ?_
        refine C.seq ?_
        refine C.region ?_
        refine W.move rfl rfl ?_
        refine W.move rfl rfl ?_
        refine W.lenS rfl Try.underlying22 rfl ?_
        refine W.lssI rfl rfl rfl ?_
        refine W.nil ?_
        refine At.thenCode ?_
        refine C.mid (X := Int) (fun x_ => [(0, .slice ao ls.length c), (1, .slice ac cs.length cc), (5, .pointer (some ⟨g5, 0, none⟩)), (8, .pointer (some ⟨g, 0, none⟩)), (9, .int .i64 (n : Int)), (10, v), (11, .int .i64 (r : Int)), (12, .int .i64 x_)]) (fun x_ wm44 => w1 = wm44 ∧ (n : Int) ≤ x_ ∧ (r = cs.length → x_ = (ls.length : Int))) ?_ ?_
        · first | refine C.condD rfl (fun c44 => ?_) (fun c44 => ?_) | refine C.cond rfl (fun c44 => ?_) (fun c44 => ?_)
          · have hlt : r < cs.length := by omega
            refine C.region ?_
            refine W.move rfl rfl ?_
            refine W.move rfl rfl ?_
            refine W.move rfl rfl ?_
            refine W.indexS (i := (r : Int)) XI Try.underlying22 rfl (hC17.ext hL1.ext) rfl ⟨by omega, by omega⟩ rfl ?_
            intro ad48 _ _ hq48
            have hc48 := hq48 0 (.int .i64 cs[r]) (by rw [List.getElem?_drop, Int.toNat_natCast, Nat.mul_one, Nat.add_zero, List.getElem?_map, List.getElem?_eq_getElem hlt]; rfl)
            rw [add_zero'] at hc48
            refine W.load (v := .int .i64 cs[r]) rfl Try.underlying3 rfl hc48 rfl ?_
            refine W.maskI 2 rfl rfl rfl (by decide) rfl ?_
            have hmd0 := Int.emod_nonneg cs[r] (show ((2 ^ 2 : Nat) : Int) ≠ 0 by decide)
            have hmd1 := Int.emod_lt_of_pos cs[r] (show (0 : Int) < ((2 ^ 2 : Nat) : Int) by decide)
            obtain ⟨md, hmd⟩ : ∃ md, md = cs[r] % ((2 ^ 2 : Nat) : Int) := ⟨_, rfl⟩
            rw [← hmd] at hmd0 hmd1 ⊢
            have hmd1 : md < 4 := hmd1
            refine W.addI rfl rfl ⟨by omega, by omega⟩ rfl ?_
            refine W.assign rfl rfl ?_
            refine W.nil ?_
            refine At.thenMid ((n : Int) + md) (Sub.cons (rfl) (Sub.cons (rfl) (Sub.cons (rfl) (Sub.cons (rfl) (Sub.cons (rfl) (Sub.cons (rfl) (Sub.cons (rfl) (Sub.cons (rfl) (Sub.nil))))))))) (show w1 = _ ∧ (n : Int) ≤ ((n : Int) + md) ∧ (r = cs.length → ((n : Int) + md) = (ls.length : Int)) from ?_)
            exact ⟨rfl, by omega, fun h => by omega⟩
          · refine C.skip ?_
            refine At.thenMid ((ls.length : Int)) (Sub.cons (rfl) (Sub.cons (rfl) (Sub.cons (rfl) (Sub.cons (rfl) (Sub.cons (rfl) (Sub.cons (rfl) (Sub.cons (rfl) (Sub.cons (rfl) (Sub.nil))))))))) (show w1 = _ ∧ (n : Int) ≤ ((ls.length : Int)) ∧ (r = cs.length → ((ls.length : Int)) = (ls.length : Int)) from ?_)
            exact ⟨rfl, by omega, fun h => rfl⟩
        · rintro z wm44 hI_
          replace hI_ : w1 = wm44 ∧ (n : Int) ≤ z ∧ (r = cs.length → z = (ls.length : Int)) := hI_
          obtain ⟨rfl, hz1, hz2⟩ := hI_
          refine C.weaken (l' := [(0, .slice ao ls.length c), (1, .slice ac cs.length cc), (5, .pointer (some ⟨g5, 0, none⟩)), (8, .pointer (some ⟨g, 0, none⟩)), (9, .int .i64 (n : Int)), (10, v), (11, .int .i64 (r : Int)), (12, .int .i64 z)]) (Sub.cons (rfl) (Sub.cons (rfl) (Sub.cons (rfl) (Sub.cons (rfl) (Sub.cons (rfl) (Sub.cons (rfl) (Sub.cons (rfl) (Sub.cons (rfl) (Sub.nil))))))))) ?_
          refine C.seq ?_
          refine C.seq ?_
          refine C.region ?_
          refine W.move rfl rfl ?_
          refine W.move rfl rfl ?_
          refine W.lenS rfl Try.underlying31 rfl ?_
          refine W.gtrI rfl rfl rfl ?_
          refine W.nil ?_
          refine At.thenCode ?_
          refine C.mid (X := Nat) (fun x_ => [(0, .slice ao ls.length c), (1, .slice ac cs.length cc), (5, .pointer (some ⟨g5, 0, none⟩)), (8, .pointer (some ⟨g, 0, none⟩)), (9, .int .i64 (n : Int)), (10, v), (11, .int .i64 (r : Int)), (12, .int .i64 (x_ : Int))]) (fun x_ wm55 => w1 = wm55 ∧ n ≤ x_ ∧ x_ ≤ ls.length ∧ (r = cs.length → x_ = ls.length)) ?_ ?_
          · first | refine C.condD rfl (fun c55 => ?_) (fun c55 => ?_) | refine C.cond rfl (fun c55 => ?_) (fun c55 => ?_)
            · refine C.region ?_
              refine W.move rfl rfl ?_
              refine W.lenS rfl Try.underlying31 rfl ?_
              refine W.assign rfl rfl ?_
              refine W.nil ?_
              refine At.thenMid (ls.length) (Sub.cons (rfl) (Sub.cons (rfl) (Sub.cons (rfl) (Sub.cons (rfl) (Sub.cons (rfl) (Sub.cons (rfl) (Sub.cons (rfl) (Sub.cons (rfl) (Sub.nil))))))))) (show w1 = _ ∧ n ≤ (ls.length) ∧ (ls.length) ≤ ls.length ∧ (r = cs.length → (ls.length) = ls.length) from ?_)
              exact ⟨rfl, hnl, Nat.le_refl _, fun h => rfl⟩
            · refine C.skip ?_
              refine At.thenMid (z.toNat) (Sub.cons (rfl) (Sub.cons (rfl) (Sub.cons (rfl) (Sub.cons (rfl) (Sub.cons (rfl) (Sub.cons (rfl) (Sub.cons (rfl) (Sub.cons (look_eq rfl (iV (by omega))) (Sub.nil))))))))) (show w1 = _ ∧ n ≤ (z.toNat) ∧ (z.toNat) ≤ ls.length ∧ (r = cs.length → (z.toNat) = ls.length) from ?_)
              exact ⟨rfl, by omega, by omega, fun h => by have := hz2 h; omega⟩
          · rintro m wm55 hI_
            replace hI_ : w1 = wm55 ∧ n ≤ m ∧ m ≤ ls.length ∧ (r = cs.length → m = ls.length) := hI_
            obtain ⟨rfl, hnm, hml, hm2⟩ := hI_
            refine C.weaken (l' := [(0, .slice ao ls.length c), (1, .slice ac cs.length cc), (5, .pointer (some ⟨g5, 0, none⟩)), (8, .pointer (some ⟨g, 0, none⟩)), (9, .int .i64 (n : Int)), (10, v), (11, .int .i64 (r : Int)), (12, .int .i64 (m : Int))]) (Sub.cons (rfl) (Sub.cons (rfl) (Sub.cons (rfl) (Sub.cons (rfl) (Sub.cons (rfl) (Sub.cons (rfl) (Sub.cons (rfl) (Sub.cons (rfl) (Sub.nil))))))))) ?_
            refine C.seq ?_
            refine C.region ?_
            refine W.move rfl rfl ?_
            refine W.move rfl rfl ?_
            refine W.move rfl rfl ?_
            refine W.sliceE (lo := n) (hi := m) ELet Try.underlying31 rfl (Els.ext rLet hE17 hL1.ext) (.inr ⟨_, _, rfl, rfl⟩) (.inr ⟨_, _, rfl, rfl⟩) hnm hml rfl ?_
            intro aP cP hEP
            obtain ⟨part, hpart⟩ : ∃ part, part = (ls.drop n).take (m - n) := ⟨_, rfl⟩
            rw [← hpart] at hEP ⊢
            have hpl : part.length ≤ 20 := by rw [hpart, List.length_take, List.length_drop]; omega
            have hcut : ls.take m = ls.take n ++ part := by rw [hpart]; exact cut_take hnm
            have hpk : ∀ p ∈ part, p.1.length = 32 := fun p hp => by
              obtain ⟨i, hi, rfl⟩ := List.getElem_of_mem hp
              obtain ⟨_, hh⟩ := Cod.Els.get hEP hi
              obtain ⟨_, _, _, hh⟩ := hh
              exact hh
            have hEN : Els (fun _ => False) w1 33 RLet aP cP part := Els.new rLet hEP fun _ h _ => h.elim
            refine W.assign rfl rfl ?_
            refine W.nil ?_
            refine At.thenCode ?_
            refine C.seq ?_
            refine C.region ?_
            refine W.move rfl rfl ?_
            refine W.assign rfl rfl ?_
            refine W.nil ?_
            refine At.thenCode ?_
            refine C.seq ?_
            refine C.seq ?_
            refine C.region ?_
            refine W.assign rfl rfl ?_
            refine W.nil ?_
            refine At.thenCode ?_
            refine C.block ?_
            refine C.loop (X := Nat) (fun x_ => [(0, .slice ao ls.length c), (1, .slice ac cs.length cc), (5, .pointer (some ⟨g5, 0, none⟩)), (8, .pointer (some ⟨g, 0, none⟩)), (9, .int .i64 (m : Int)), (10, v), (11, .int .i64 (r : Int)), (13, .slice aP part.length cP), (14, .int .i64 (x_ : Int))]) (fun x_ w2 => x_ ≤ part.length ∧ Ext w1 w2 ∧ ∀ p_ ∈ part.take x_, p_.2.length ≤ 100 ∧ p_.2.length = sizeL part) (fun x_ => part.length - x_) (0) (Sub.cons (rfl) (Sub.cons (rfl) (Sub.cons (rfl) (Sub.cons (rfl) (Sub.cons (rfl) (Sub.cons (rfl) (Sub.cons (rfl) (Sub.cons (rfl) (Sub.cons (rfl) (Sub.nil)))))))))) ?start2 ?_
            case start2 =>
              show (0) ≤ part.length ∧ Ext w1 _ ∧ ∀ p_ ∈ part.take (0), p_.2.length ≤ 100 ∧ p_.2.length = sizeL part
              exact ⟨by omega, Ext.refl _, fun p hp => by simp at hp⟩
            rintro j w2 hI_
            replace hI_ : j ≤ part.length ∧ Ext w1 w2 ∧ ∀ p_ ∈ part.take j, p_.2.length ≤ 100 ∧ p_.2.length = sizeL part := hI_
            obtain ⟨hj, hX2, hall⟩ := hI_
            refine C.weaken (l' := [(0, .slice ao ls.length c), (1, .slice ac cs.length cc), (5, .pointer (some ⟨g5, 0, none⟩)), (8, .pointer (some ⟨g, 0, none⟩)), (9, .int .i64 (m : Int)), (10, v), (11, .int .i64 (r : Int)), (13, .slice aP part.length cP), (14, .int .i64 (j : Int))]) (Sub.cons (rfl) (Sub.cons (rfl) (Sub.cons (rfl) (Sub.cons (rfl) (Sub.cons (rfl) (Sub.cons (rfl) (Sub.cons (rfl) (Sub.cons (rfl) (Sub.cons (rfl) (Sub.nil)))))))))) ?_
            refine C.seq ?_
            refine C.seq ?_
            refine C.region ?_
            refine W.move rfl rfl ?_
            refine W.move rfl rfl ?_
            refine W.lenS rfl Try.underlying31 rfl ?_
            refine W.lssI rfl rfl rfl ?_
            refine W.nil ?_
            refine At.thenCode ?_
            first | refine C.condD rfl (fun c66 => ?_) (fun c66 => ?_) | refine C.cond rfl (fun c66 => ?_) (fun c66 => ?_)
            · have hjl : j < part.length := by omega
              obtain ⟨p, hp⟩ : ∃ p, p = part[j] := ⟨_, rfl⟩
              obtain ⟨p0, hp0⟩ : ∃ p, p = part[0] := ⟨_, rfl⟩
              have hsz0 : sizeL part = p0.2.length := by rw [hp0]; cases part with | nil => simp at hjl | cons a t => rfl
              refine C.skip ?_
              refine At.thenCode ?_
              refine C.seq ?_
              refine C.block ?_
              refine C.seq ?_
              by_cases heq : p.2.length = sizeL part
              · refine C.regionAny 21 ((fun v w => v = .slice aP part.length cP) :: (fun v w => v = .int .i64 (j : Int)) :: (fun v w => ∃ ad, v = .pointer (some ad) ∧ ∃ v1, Cells w ad (p.1.map byteV ++ [v1]) ∧ RByt NoA w [v1] p.2 ∧ p.1.length = 32) :: (fun v w => ∃ ad v1, v = .pointer (some ad) ∧ w.cell? ad = some v1 ∧ RByt NoA w [v1] p.2) :: (fun v w => RByt NoA w [v] p.2) :: (fun v w => v = .int .i64 (p.2.length : Int)) :: (fun v w => v = .slice aP part.length cP) :: (fun v w => ∃ ad, v = .pointer (some ad) ∧ ∃ v1, Cells w ad (p0.1.map byteV ++ [v1]) ∧ RByt NoA w [v1] p0.2 ∧ p0.1.length = 32) :: (fun v w => ∃ ad v1, v = .pointer (some ad) ∧ w.cell? ad = some v1 ∧ RByt NoA w [v1] p0.2) :: (fun v w => RByt NoA w [v] p0.2) :: (fun v w => v = .int .i64 (p0.2.length : Int)) :: (fun v w => v = .bool false) :: (fun v w => v = .bool false) :: (fun v w => v = .slice aP part.length cP) :: (fun v w => v = .int .i64 (j : Int)) :: (fun v w => ∃ ad, v = .pointer (some ad) ∧ ∃ v1, Cells w ad (p.1.map byteV ++ [v1]) ∧ RByt NoA w [v1] p.2 ∧ p.1.length = 32) :: (fun v w => ∃ ad v1, v = .pointer (some ad) ∧ w.cell? ad = some v1 ∧ RByt NoA w [v1] p.2) :: (fun v w => RByt NoA w [v] p.2) :: (fun v w => v = .int .i64 (p.2.length : Int)) :: (fun v w => v = .bool (decide ((100 : Int) < (p.2.length : Int)))) :: (fun v w => v = .bool (decide ((100 : Int) < (p.2.length : Int)))) :: []) [(0, .slice ao ls.length c), (1, .slice ac cs.length cc), (5, .pointer (some ⟨g5, 0, none⟩)), (8, .pointer (some ⟨g, 0, none⟩)), (9, .int .i64 (m : Int)), (10, v), (11, .int .i64 (r : Int)), (13, .slice aP part.length cP), (14, .int .i64 (j : Int))] [] (Sub.cons (rfl) (Sub.cons (rfl) (Sub.cons (rfl) (Sub.cons (rfl) (Sub.cons (rfl) (Sub.cons (rfl) (Sub.cons (rfl) (Sub.cons (rfl) (Sub.cons (rfl) (Sub.nil)))))))))) (Sub.nil) (Sub.cons (rfl) (Sub.cons (rfl) (Sub.cons (rfl) (Sub.cons (rfl) (Sub.cons (rfl) (Sub.cons (rfl) (Sub.cons (rfl) (Sub.cons (rfl) (Sub.cons (rfl) (Sub.nil)))))))))) (by kernel_rfl) rfl rfl rfl (And.intro (fun _ _ _ h _ => h) (And.intro (fun _ _ _ h _ => h) (And.intro (fun _ _ _ h g => by obtain ⟨ad, e, v1, h1, h2, h3⟩ := h; exact ⟨ad, e, v1, h1.chg g (fun c => c), RdOk.ext rByt h2 g, h3⟩) (And.intro (fun _ _ _ h g => by obtain ⟨ad, v1, e, h1, h2⟩ := h; exact ⟨ad, v1, e, Chg.cell g h1 fun c => c, RdOk.ext rByt h2 g⟩) (And.intro (fun _ _ _ h g => RdOk.ext rByt h g) (And.intro (fun _ _ _ h _ => h) (And.intro (fun _ _ _ h _ => h) (And.intro (fun _ _ _ h g => by obtain ⟨ad, e, v1, h1, h2, h3⟩ := h; exact ⟨ad, e, v1, h1.chg g (fun c => c), RdOk.ext rByt h2 g, h3⟩) (And.intro (fun _ _ _ h g => by obtain ⟨ad, v1, e, h1, h2⟩ := h; exact ⟨ad, v1, e, Chg.cell g h1 fun c => c, RdOk.ext rByt h2 g⟩) (And.intro (fun _ _ _ h g => RdOk.ext rByt h g) (And.intro (fun _ _ _ h _ => h) (And.intro (fun _ _ _ h _ => h) (And.intro (fun _ _ _ h _ => h) (And.intro (fun _ _ _ h _ => h) (And.intro (fun _ _ _ h _ => h) (And.intro (fun _ _ _ h g => by obtain ⟨ad, e, v1, h1, h2, h3⟩ := h; exact ⟨ad, e, v1, h1.chg g (fun c => c), RdOk.ext rByt h2 g, h3⟩) (And.intro (fun _ _ _ h g => by obtain ⟨ad, v1, e, h1, h2⟩ := h; exact ⟨ad, v1, e, Chg.cell g h1 fun c => c, RdOk.ext rByt h2 g⟩) (And.intro (fun _ _ _ h g => RdOk.ext rByt h g) (And.intro (fun _ _ _ h _ => h) (And.intro (fun _ _ _ h _ => h) (And.intro (fun _ _ _ h _ => h) (trivial)))))))))))))))))))))) ?_ ?_
                · refine And.intro ?_ ?_
                  · intro L_ wr hX_ hs_ hf_ hd_
                    refine W.step [(13, _)] (Sub.cons (hs_ _ _ rfl) (Sub.refl _)) ?_
                    refine W.move rfl rfl ?_
                    refine W.nil ?_
                    exact At.step (Ext.refl _) rfl
                  refine And.intro ?_ ?_
                  · intro L_ wr hX_ hs_ hf_ hd_
                    refine W.step [(14, _)] (Sub.cons (hs_ _ _ rfl) (Sub.refl _)) ?_
                    refine W.move rfl rfl ?_
                    refine W.nil ?_
                    exact At.step (Ext.refl _) rfl
                  refine And.intro ?_ ?_
                  · intro L_ wr hX_ hs_ hf_ hd_
                    obtain ⟨v0, e0, r0⟩ := hd_ 0 rfl
                    obtain rfl : (.slice aP part.length cP : Value) = v0 := Eq.symm r0
                    obtain ⟨v1, e1, r1⟩ := hd_ 1 rfl
                    obtain rfl : (.int .i64 (j : Int) : Value) = v1 := Eq.symm r1
                    refine W.step [(69, _), (70, _)] (Sub.cons (e0 _ rfl) (Sub.cons (e1 _ rfl) (Sub.refl _))) ?_
                    refine W.indexE ELet Try.underlying31 rfl ((hEN.ext rLet hX2).ext rLet hX_) rfl hjl rfl ?_
                    rintro ad71 cs71 hc71 ⟨v71, rfl, hR71, hx71⟩ _
                    rw [← hp] at hR71 hx71 hc71
                    refine W.nil ?_
                    exact At.step (Ext.refl _) ⟨ad71, rfl, v71, hc71, hR71, hx71⟩
                  refine And.intro ?_ ?_
                  · intro L_ wr hX_ hs_ hf_ hd_
                    obtain ⟨v2, e2, r2⟩ := hd_ 2 rfl
                    obtain ⟨ad2, rfl, v2, hc2, hR2, hk2⟩ := r2
                    refine W.step [(71, _)] (Sub.cons (e2 _ rfl) (Sub.refl _)) ?_
                    refine W.fieldAddr (off := 32) (size := 1) (t := 51) (Fld.of (by kernel_rfl)) rfl rfl rfl ?_
                    refine W.nil ?_
                    exact At.step (Ext.refl _) ⟨ad2.add 32, v2, rfl, hc2 32 v2 (by rw [List.getElem?_append_right (by simp [hk2]), List.length_map, hk2]; rfl), hR2⟩
                  refine And.intro ?_ ?_
                  · intro L_ wr hX_ hs_ hf_ hd_
                    obtain ⟨v3, e3, r3⟩ := hd_ 3 rfl
                    obtain ⟨ad3, v3, rfl, hc3, hR3⟩ := r3
                    refine W.step [(72, _)] (Sub.cons (e3 _ rfl) (Sub.refl _)) ?_
                    refine W.load rfl Try.underlying51 rfl hc3 rfl ?_
                    refine W.nil ?_
                    exact At.step (Ext.refl _) hR3
                  refine And.intro ?_ ?_
                  · intro L_ wr hX_ hs_ hf_ hd_
                    obtain ⟨v4, e4, r4⟩ := hd_ 4 rfl
                    obtain ⟨a4, c4, rfl, hs4, _⟩ := RByt.form r4
                    refine W.step [(73, _)] (Sub.cons (e4 _ rfl) (Sub.refl _)) ?_
                    refine W.lenS rfl Try.underlying51 rfl ?_
                    refine W.nil ?_
                    exact At.step (Ext.refl _) rfl
                  refine And.intro ?_ ?_
                  · intro L_ wr hX_ hs_ hf_ hd_
                    refine W.step [(13, _)] (Sub.cons (hs_ _ _ rfl) (Sub.refl _)) ?_
                    refine W.move rfl rfl ?_
                    refine W.nil ?_
                    exact At.step (Ext.refl _) rfl
                  refine And.intro ?_ ?_
                  · intro L_ wr hX_ hs_ hf_ hd_
                    obtain ⟨v6, e6, r6⟩ := hd_ 6 rfl
                    obtain rfl : (.slice aP part.length cP : Value) = v6 := Eq.symm r6
                    refine W.step [(75, _)] (Sub.cons (e6 _ rfl) (Sub.refl _)) ?_
                    refine W.indexE (j := 0) ELet Try.underlying31 rfl ((hEN.ext rLet hX2).ext rLet hX_) rfl (by omega) rfl ?_
                    rintro ad76 cs76 hc76 ⟨v76, rfl, hR76, hx76⟩ _
                    rw [← hp0] at hR76 hx76 hc76
                    refine W.nil ?_
                    exact At.step (Ext.refl _) ⟨ad76, rfl, v76, hc76, hR76, hx76⟩
                  refine And.intro ?_ ?_
                  · intro L_ wr hX_ hs_ hf_ hd_
                    obtain ⟨v7, e7, r7⟩ := hd_ 7 rfl
                    obtain ⟨ad7, rfl, v7, hc7, hR7, hk7⟩ := r7
                    refine W.step [(76, _)] (Sub.cons (e7 _ rfl) (Sub.refl _)) ?_
                    refine W.fieldAddr (off := 32) (size := 1) (t := 51) (Fld.of (by kernel_rfl)) rfl rfl rfl ?_
                    refine W.nil ?_
                    exact At.step (Ext.refl _) ⟨ad7.add 32, v7, rfl, hc7 32 v7 (by rw [List.getElem?_append_right (by simp [hk7]), List.length_map, hk7]; rfl), hR7⟩
                  refine And.intro ?_ ?_
                  · intro L_ wr hX_ hs_ hf_ hd_
                    obtain ⟨v8, e8, r8⟩ := hd_ 8 rfl
                    obtain ⟨ad8, v8, rfl, hc8, hR8⟩ := r8
                    refine W.step [(77, _)] (Sub.cons (e8 _ rfl) (Sub.refl _)) ?_
                    refine W.load rfl Try.underlying51 rfl hc8 rfl ?_
                    refine W.nil ?_
                    exact At.step (Ext.refl _) hR8
                  refine And.intro ?_ ?_
                  · intro L_ wr hX_ hs_ hf_ hd_
                    obtain ⟨v9, e9, r9⟩ := hd_ 9 rfl
                    obtain ⟨a9, c9, rfl, hs9, _⟩ := RByt.form r9
                    refine W.step [(78, _)] (Sub.cons (e9 _ rfl) (Sub.refl _)) ?_
                    refine W.lenS rfl Try.underlying51 rfl ?_
                    refine W.nil ?_
                    exact At.step (Ext.refl _) rfl
                  refine And.intro ?_ ?_
                  · intro L_ wr hX_ hs_ hf_ hd_
                    obtain ⟨v5, e5, r5⟩ := hd_ 5 rfl
                    obtain rfl : (.int .i64 (p.2.length : Int) : Value) = v5 := Eq.symm r5
                    obtain ⟨v10, e10, r10⟩ := hd_ 10 rfl
                    obtain rfl : (.int .i64 (p0.2.length : Int) : Value) = v10 := Eq.symm r10
                    refine W.step [(74, _), (79, _)] (Sub.cons (e5 _ rfl) (Sub.cons (e10 _ rfl) (Sub.refl _))) ?_
                    refine W.neqI rfl rfl rfl ?_
                    refine W.eqv (bF (by omega)) ?_
                    refine W.nil ?_
                    exact At.step (Ext.refl _) rfl
                  refine And.intro ?_ ?_
                  · intro L_ wr hX_ hs_ hf_ hd_
                    obtain ⟨v11, e11, r11⟩ := hd_ 11 rfl
                    obtain rfl : (.bool false : Value) = v11 := Eq.symm r11
                    refine W.step [(80, _)] (Sub.cons (e11 _ rfl) (Sub.refl _)) ?_
                    refine W.move rfl rfl ?_
                    refine W.nil ?_
                    exact At.step (Ext.refl _) rfl
                  refine And.intro ?_ ?_
                  · intro L_ wr hX_ hs_ hf_ hd_
                    obtain ⟨v12, e12, r12⟩ := hd_ 12 rfl
                    obtain rfl : (.bool false : Value) = v12 := Eq.symm r12
                    refine W.step [(13, _), (81, _)] (Sub.cons (hs_ _ _ rfl) (Sub.cons (e12 _ rfl) (Sub.refl _))) ?_
                    refine W.wants rfl rfl rfl rfl ?_
                    refine W.move rfl rfl ?_
                    refine W.nil ?_
                    exact At.step (Ext.refl _) rfl
                  refine And.intro ?_ ?_
                  · intro L_ wr hX_ hs_ hf_ hd_
                    obtain ⟨v12, e12, r12⟩ := hd_ 12 rfl
                    obtain rfl : (.bool false : Value) = v12 := Eq.symm r12
                    refine W.step [(14, _), (81, _)] (Sub.cons (hs_ _ _ rfl) (Sub.cons (e12 _ rfl) (Sub.refl _))) ?_
                    refine W.wants rfl rfl rfl rfl ?_
                    refine W.move rfl rfl ?_
                    refine W.nil ?_
                    exact At.step (Ext.refl _) rfl
                  refine And.intro ?_ ?_
                  · intro L_ wr hX_ hs_ hf_ hd_
                    obtain ⟨v13, e13, r13⟩ := hd_ 13 rfl
                    obtain rfl : (.slice aP part.length cP : Value) = v13 := Eq.symm r13
                    obtain ⟨v14, e14, r14⟩ := hd_ 14 rfl
                    obtain rfl : (.int .i64 (j : Int) : Value) = v14 := Eq.symm r14
                    obtain ⟨v12, e12, r12⟩ := hd_ 12 rfl
                    obtain rfl : (.bool false : Value) = v12 := Eq.symm r12
                    refine W.step [(82, _), (83, _), (81, _)] (Sub.cons (e13 _ rfl) (Sub.cons (e14 _ rfl) (Sub.cons (e12 _ rfl) (Sub.refl _)))) ?_
                    refine W.wants rfl rfl rfl rfl ?_
                    refine W.indexE ELet Try.underlying31 rfl ((hEN.ext rLet hX2).ext rLet hX_) rfl hjl rfl ?_
                    rintro ad84 cs84 hc84 ⟨v84, rfl, hR84, hx84⟩ _
                    rw [← hp] at hR84 hx84 hc84
                    refine W.nil ?_
                    exact At.step (Ext.refl _) ⟨ad84, rfl, v84, hc84, hR84, hx84⟩
                  refine And.intro ?_ ?_
                  · intro L_ wr hX_ hs_ hf_ hd_
                    obtain ⟨v15, e15, r15⟩ := hd_ 15 rfl
                    obtain ⟨ad15, rfl, v15, hc15, hR15, hk15⟩ := r15
                    obtain ⟨v12, e12, r12⟩ := hd_ 12 rfl
                    obtain rfl : (.bool false : Value) = v12 := Eq.symm r12
                    refine W.step [(84, _), (81, _)] (Sub.cons (e15 _ rfl) (Sub.cons (e12 _ rfl) (Sub.refl _))) ?_
                    refine W.wants rfl rfl rfl rfl ?_
                    refine W.fieldAddr (off := 32) (size := 1) (t := 51) (Fld.of (by kernel_rfl)) rfl rfl rfl ?_
                    refine W.nil ?_
                    exact At.step (Ext.refl _) ⟨ad15.add 32, v15, rfl, hc15 32 v15 (by rw [List.getElem?_append_right (by simp [hk15]), List.length_map, hk15]; rfl), hR15⟩
                  refine And.intro ?_ ?_
                  · intro L_ wr hX_ hs_ hf_ hd_
                    obtain ⟨v16, e16, r16⟩ := hd_ 16 rfl
                    obtain ⟨ad16, v16, rfl, hc16, hR16⟩ := r16
                    obtain ⟨v12, e12, r12⟩ := hd_ 12 rfl
                    obtain rfl : (.bool false : Value) = v12 := Eq.symm r12
                    refine W.step [(85, _), (81, _)] (Sub.cons (e16 _ rfl) (Sub.cons (e12 _ rfl) (Sub.refl _))) ?_
                    refine W.wants rfl rfl rfl rfl ?_
                    refine W.load rfl Try.underlying51 rfl hc16 rfl ?_
                    refine W.nil ?_
                    exact At.step (Ext.refl _) hR16
                  refine And.intro ?_ ?_
                  · intro L_ wr hX_ hs_ hf_ hd_
                    obtain ⟨v17, e17, r17⟩ := hd_ 17 rfl
                    obtain ⟨a17, c17, rfl, hs17, _⟩ := RByt.form r17
                    obtain ⟨v12, e12, r12⟩ := hd_ 12 rfl
                    obtain rfl : (.bool false : Value) = v12 := Eq.symm r12
                    refine W.step [(86, _), (81, _)] (Sub.cons (e17 _ rfl) (Sub.cons (e12 _ rfl) (Sub.refl _))) ?_
                    refine W.wants rfl rfl rfl rfl ?_
                    refine W.lenS rfl Try.underlying51 rfl ?_
                    refine W.nil ?_
                    exact At.step (Ext.refl _) rfl
                  refine And.intro ?_ ?_
                  · intro L_ wr hX_ hs_ hf_ hd_
                    obtain ⟨v18, e18, r18⟩ := hd_ 18 rfl
                    obtain rfl : (.int .i64 (p.2.length : Int) : Value) = v18 := Eq.symm r18
                    obtain ⟨v12, e12, r12⟩ := hd_ 12 rfl
                    obtain rfl : (.bool false : Value) = v12 := Eq.symm r12
                    refine W.step [(87, _), (81, _)] (Sub.cons (e18 _ rfl) (Sub.cons (e12 _ rfl) (Sub.refl _))) ?_
                    refine W.wants rfl rfl rfl rfl ?_
                    refine W.gtrI rfl rfl rfl ?_
                    refine W.nil ?_
                    exact At.step (Ext.refl _) rfl
                  refine And.intro ?_ ?_
                  · intro L_ wr hX_ hs_ hf_ hd_
                    obtain ⟨v12, e12, r12⟩ := hd_ 12 rfl
                    obtain rfl : (.bool false : Value) = v12 := Eq.symm r12
                    obtain ⟨v19, e19, r19⟩ := hd_ 19 rfl
                    obtain rfl : (.bool (decide ((100 : Int) < (p.2.length : Int))) : Value) = v19 := Eq.symm r19
                    refine W.step [(81, _), (88, _)] (Sub.cons (e12 _ rfl) (Sub.cons (e19 _ rfl) (Sub.refl _))) ?_
                    refine W.pickF rfl rfl rfl ?_
                    refine W.nil ?_
                    exact At.step (Ext.refl _) rfl
                  exact trivial
                · intro L_ wr hX20 hs_ hv_
                  obtain ⟨v20, e20, r20⟩ := hv_ 20 (by decide)
                  obtain rfl : (.bool (decide ((100 : Int) < (p.2.length : Int))) : Value) = v20 := Eq.symm r20
                  refine W.weaken (l' := [(89, _), (0, _), (1, _), (5, _), (8, _), (9, _), (10, _), (11, _), (13, _), (14, _)]) (Sub.cons (e20 _ rfl) (Sub.cons (hs_ _ _ rfl) (Sub.cons (hs_ _ _ rfl) (Sub.cons (hs_ _ _ rfl) (Sub.cons (hs_ _ _ rfl) (Sub.cons (hs_ _ _ rfl) (Sub.cons (hs_ _ _ rfl) (Sub.cons (hs_ _ _ rfl) (Sub.cons (hs_ _ _ rfl) (Sub.cons (hs_ _ _ rfl) (Sub.nil))))))))))) ?_
                  refine W.nil ?_
                  refine At.thenCode ?_
                  first | refine C.condD rfl (fun c89 => ?_) (fun c89 => ?_) | refine C.cond rfl (fun c89 => ?_) (fun c89 => ?_)
                  · refine C.seq ?_
                    refine C.region ?_
                    refine W.assign rfl rfl ?_
                    refine W.nil ?_
                    refine At.thenCode ?_
                    refine C.ret ?_
                    refine At.blockRet ?_
                    refine At.thenRet ?_
                    refine At.thenRet ?_
                    refine At.blockRet ?_
                    refine At.thenRet ?_
                    refine At.blockRet ?_
                    refine At.thenRet ?_
                    refine At.thenRet ?_
                    refine At.blockRet ?_
                    refine At.thenRet ?_
                    refine At.ret1 Try.results5 rfl ?_
                    first
                    | exact ⟨rfl, Ext.below (((hXa.ext hL1.ext).ext (hX120.ext hX122)).ext hX126)⟩
                    | exact ⟨rfl, Ext.below ((hXa.ext hL1.ext).ext (hX2.ext hX20))⟩
                    | exact ⟨rfl, Ext.below hXa⟩
                  · refine C.skip ?_
                    refine At.blockNormal ?_
                    refine At.thenCode ?_
                    refine C.region ?_
                    refine W.move rfl rfl ?_
                    first | refine W.addI rfl rfl (by omega) rfl ?_ | refine W.addW rfl rfl rfl ?_
                    refine W.assign rfl rfl ?_
                    refine W.nil ?_
                    refine At.thenRound (j + 1) (Sub.cons (rfl) (Sub.cons (rfl) (Sub.cons (rfl) (Sub.cons (rfl) (Sub.cons (rfl) (Sub.cons (rfl) (Sub.cons (rfl) (Sub.cons (rfl) (Sub.cons (look_eq rfl (iV (by omega))) (Sub.nil)))))))))) (show (j + 1) ≤ part.length ∧ Ext w1 _ ∧ ∀ p_ ∈ part.take (j + 1), p_.2.length ≤ 100 ∧ p_.2.length = sizeL part from ?_) (show part.length - (j + 1) < part.length - j from ?_)
                    · refine ⟨by omega, hX2.ext hX20, ?_⟩
                      rw [List.take_succ_eq_append_getElem hjl, ← hp]
                      intro y hy
                      rcases List.mem_append.1 hy with hy | hy
                      · exact hall y hy
                      · obtain rfl := List.mem_singleton.1 hy
                        exact ⟨by omega, heq⟩
                    · omega
              · refine C.regionAny 21 ((fun v w => v = .slice aP part.length cP) :: (fun v w => v = .int .i64 (j : Int)) :: (fun v w => ∃ ad, v = .pointer (some ad) ∧ ∃ v1, Cells w ad (p.1.map byteV ++ [v1]) ∧ RByt NoA w [v1] p.2 ∧ p.1.length = 32) :: (fun v w => ∃ ad v1, v = .pointer (some ad) ∧ w.cell? ad = some v1 ∧ RByt NoA w [v1] p.2) :: (fun v w => RByt NoA w [v] p.2) :: (fun v w => v = .int .i64 (p.2.length : Int)) :: (fun v w => v = .slice aP part.length cP) :: (fun v w => ∃ ad, v = .pointer (some ad) ∧ ∃ v1, Cells w ad (p0.1.map byteV ++ [v1]) ∧ RByt NoA w [v1] p0.2 ∧ p0.1.length = 32) :: (fun v w => ∃ ad v1, v = .pointer (some ad) ∧ w.cell? ad = some v1 ∧ RByt NoA w [v1] p0.2) :: (fun v w => RByt NoA w [v] p0.2) :: (fun v w => v = .int .i64 (p0.2.length : Int)) :: (fun v w => v = .bool true) :: (fun v w => v = .bool true) :: (fun v w => v = undef) :: (fun v w => v = undef) :: (fun v w => v = undef) :: (fun v w => v = undef) :: (fun v w => v = undef) :: (fun v w => v = undef) :: (fun v w => v = undef) :: (fun v w => v = .bool true) :: []) [(0, .slice ao ls.length c), (1, .slice ac cs.length cc), (5, .pointer (some ⟨g5, 0, none⟩)), (8, .pointer (some ⟨g, 0, none⟩)), (9, .int .i64 (m : Int)), (10, v), (11, .int .i64 (r : Int)), (13, .slice aP part.length cP), (14, .int .i64 (j : Int))] [] (Sub.cons (rfl) (Sub.cons (rfl) (Sub.cons (rfl) (Sub.cons (rfl) (Sub.cons (rfl) (Sub.cons (rfl) (Sub.cons (rfl) (Sub.cons (rfl) (Sub.cons (rfl) (Sub.nil)))))))))) (Sub.nil) (Sub.cons (rfl) (Sub.cons (rfl) (Sub.cons (rfl) (Sub.cons (rfl) (Sub.cons (rfl) (Sub.cons (rfl) (Sub.cons (rfl) (Sub.cons (rfl) (Sub.cons (rfl) (Sub.nil)))))))))) (by kernel_rfl) rfl rfl rfl (And.intro (fun _ _ _ h _ => h) (And.intro (fun _ _ _ h _ => h) (And.intro (fun _ _ _ h g => by obtain ⟨ad, e, v1, h1, h2, h3⟩ := h; exact ⟨ad, e, v1, h1.chg g (fun c => c), RdOk.ext rByt h2 g, h3⟩) (And.intro (fun _ _ _ h g => by obtain ⟨ad, v1, e, h1, h2⟩ := h; exact ⟨ad, v1, e, Chg.cell g h1 fun c => c, RdOk.ext rByt h2 g⟩) (And.intro (fun _ _ _ h g => RdOk.ext rByt h g) (And.intro (fun _ _ _ h _ => h) (And.intro (fun _ _ _ h _ => h) (And.intro (fun _ _ _ h g => by obtain ⟨ad, e, v1, h1, h2, h3⟩ := h; exact ⟨ad, e, v1, h1.chg g (fun c => c), RdOk.ext rByt h2 g, h3⟩) (And.intro (fun _ _ _ h g => by obtain ⟨ad, v1, e, h1, h2⟩ := h; exact ⟨ad, v1, e, Chg.cell g h1 fun c => c, RdOk.ext rByt h2 g⟩) (And.intro (fun _ _ _ h g => RdOk.ext rByt h g) (And.intro (fun _ _ _ h _ => h) (And.intro (fun _ _ _ h _ => h) (And.intro (fun _ _ _ h _ => h) (And.intro (fun _ _ _ h _ => h) (And.intro (fun _ _ _ h _ => h) (And.intro (fun _ _ _ h _ => h) (And.intro (fun _ _ _ h _ => h) (And.intro (fun _ _ _ h _ => h) (And.intro (fun _ _ _ h _ => h) (And.intro (fun _ _ _ h _ => h) (And.intro (fun _ _ _ h _ => h) (trivial)))))))))))))))))))))) ?_ ?_
                · refine And.intro ?_ ?_
                  · intro L_ wr hX_ hs_ hf_ hd_
                    refine W.step [(13, _)] (Sub.cons (hs_ _ _ rfl) (Sub.refl _)) ?_
                    refine W.move rfl rfl ?_
                    refine W.nil ?_
                    exact At.step (Ext.refl _) rfl
                  refine And.intro ?_ ?_
                  · intro L_ wr hX_ hs_ hf_ hd_
                    refine W.step [(14, _)] (Sub.cons (hs_ _ _ rfl) (Sub.refl _)) ?_
                    refine W.move rfl rfl ?_
                    refine W.nil ?_
                    exact At.step (Ext.refl _) rfl
                  refine And.intro ?_ ?_
                  · intro L_ wr hX_ hs_ hf_ hd_
                    obtain ⟨v0, e0, r0⟩ := hd_ 0 rfl
                    obtain rfl : (.slice aP part.length cP : Value) = v0 := Eq.symm r0
                    obtain ⟨v1, e1, r1⟩ := hd_ 1 rfl
                    obtain rfl : (.int .i64 (j : Int) : Value) = v1 := Eq.symm r1
                    refine W.step [(69, _), (70, _)] (Sub.cons (e0 _ rfl) (Sub.cons (e1 _ rfl) (Sub.refl _))) ?_
                    refine W.indexE ELet Try.underlying31 rfl ((hEN.ext rLet hX2).ext rLet hX_) rfl hjl rfl ?_
                    rintro ad71 cs71 hc71 ⟨v71, rfl, hR71, hx71⟩ _
                    rw [← hp] at hR71 hx71 hc71
                    refine W.nil ?_
                    exact At.step (Ext.refl _) ⟨ad71, rfl, v71, hc71, hR71, hx71⟩
                  refine And.intro ?_ ?_
                  · intro L_ wr hX_ hs_ hf_ hd_
                    obtain ⟨v2, e2, r2⟩ := hd_ 2 rfl
                    obtain ⟨ad2, rfl, v2, hc2, hR2, hk2⟩ := r2
                    refine W.step [(71, _)] (Sub.cons (e2 _ rfl) (Sub.refl _)) ?_
                    refine W.fieldAddr (off := 32) (size := 1) (t := 51) (Fld.of (by kernel_rfl)) rfl rfl rfl ?_
                    refine W.nil ?_
                    exact At.step (Ext.refl _) ⟨ad2.add 32, v2, rfl, hc2 32 v2 (by rw [List.getElem?_append_right (by simp [hk2]), List.length_map, hk2]; rfl), hR2⟩
                  refine And.intro ?_ ?_
                  · intro L_ wr hX_ hs_ hf_ hd_
                    obtain ⟨v3, e3, r3⟩ := hd_ 3 rfl
                    obtain ⟨ad3, v3, rfl, hc3, hR3⟩ := r3
                    refine W.step [(72, _)] (Sub.cons (e3 _ rfl) (Sub.refl _)) ?_
                    refine W.load rfl Try.underlying51 rfl hc3 rfl ?_
                    refine W.nil ?_
                    exact At.step (Ext.refl _) hR3
                  refine And.intro ?_ ?_
                  · intro L_ wr hX_ hs_ hf_ hd_
                    obtain ⟨v4, e4, r4⟩ := hd_ 4 rfl
                    obtain ⟨a4, c4, rfl, hs4, _⟩ := RByt.form r4
                    refine W.step [(73, _)] (Sub.cons (e4 _ rfl) (Sub.refl _)) ?_
                    refine W.lenS rfl Try.underlying51 rfl ?_
                    refine W.nil ?_
                    exact At.step (Ext.refl _) rfl
                  refine And.intro ?_ ?_
                  · intro L_ wr hX_ hs_ hf_ hd_
                    refine W.step [(13, _)] (Sub.cons (hs_ _ _ rfl) (Sub.refl _)) ?_
                    refine W.move rfl rfl ?_
                    refine W.nil ?_
                    exact At.step (Ext.refl _) rfl
                  refine And.intro ?_ ?_
                  · intro L_ wr hX_ hs_ hf_ hd_
                    obtain ⟨v6, e6, r6⟩ := hd_ 6 rfl
                    obtain rfl : (.slice aP part.length cP : Value) = v6 := Eq.symm r6
                    refine W.step [(75, _)] (Sub.cons (e6 _ rfl) (Sub.refl _)) ?_
                    refine W.indexE (j := 0) ELet Try.underlying31 rfl ((hEN.ext rLet hX2).ext rLet hX_) rfl (by omega) rfl ?_
                    rintro ad76 cs76 hc76 ⟨v76, rfl, hR76, hx76⟩ _
                    rw [← hp0] at hR76 hx76 hc76
                    refine W.nil ?_
                    exact At.step (Ext.refl _) ⟨ad76, rfl, v76, hc76, hR76, hx76⟩
                  refine And.intro ?_ ?_
                  · intro L_ wr hX_ hs_ hf_ hd_
                    obtain ⟨v7, e7, r7⟩ := hd_ 7 rfl
                    obtain ⟨ad7, rfl, v7, hc7, hR7, hk7⟩ := r7
                    refine W.step [(76, _)] (Sub.cons (e7 _ rfl) (Sub.refl _)) ?_
                    refine W.fieldAddr (off := 32) (size := 1) (t := 51) (Fld.of (by kernel_rfl)) rfl rfl rfl ?_
                    refine W.nil ?_
                    exact At.step (Ext.refl _) ⟨ad7.add 32, v7, rfl, hc7 32 v7 (by rw [List.getElem?_append_right (by simp [hk7]), List.length_map, hk7]; rfl), hR7⟩
                  refine And.intro ?_ ?_
                  · intro L_ wr hX_ hs_ hf_ hd_
                    obtain ⟨v8, e8, r8⟩ := hd_ 8 rfl
                    obtain ⟨ad8, v8, rfl, hc8, hR8⟩ := r8
                    refine W.step [(77, _)] (Sub.cons (e8 _ rfl) (Sub.refl _)) ?_
                    refine W.load rfl Try.underlying51 rfl hc8 rfl ?_
                    refine W.nil ?_
                    exact At.step (Ext.refl _) hR8
                  refine And.intro ?_ ?_
                  · intro L_ wr hX_ hs_ hf_ hd_
                    obtain ⟨v9, e9, r9⟩ := hd_ 9 rfl
                    obtain ⟨a9, c9, rfl, hs9, _⟩ := RByt.form r9
                    refine W.step [(78, _)] (Sub.cons (e9 _ rfl) (Sub.refl _)) ?_
                    refine W.lenS rfl Try.underlying51 rfl ?_
                    refine W.nil ?_
                    exact At.step (Ext.refl _) rfl
                  refine And.intro ?_ ?_
                  · intro L_ wr hX_ hs_ hf_ hd_
                    obtain ⟨v5, e5, r5⟩ := hd_ 5 rfl
                    obtain rfl : (.int .i64 (p.2.length : Int) : Value) = v5 := Eq.symm r5
                    obtain ⟨v10, e10, r10⟩ := hd_ 10 rfl
                    obtain rfl : (.int .i64 (p0.2.length : Int) : Value) = v10 := Eq.symm r10
                    refine W.step [(74, _), (79, _)] (Sub.cons (e5 _ rfl) (Sub.cons (e10 _ rfl) (Sub.refl _))) ?_
                    refine W.neqI rfl rfl rfl ?_
                    refine W.eqv (bT (by omega)) ?_
                    refine W.nil ?_
                    exact At.step (Ext.refl _) rfl
                  refine And.intro ?_ ?_
                  · intro L_ wr hX_ hs_ hf_ hd_
                    obtain ⟨v11, e11, r11⟩ := hd_ 11 rfl
                    obtain rfl : (.bool true : Value) = v11 := Eq.symm r11
                    refine W.step [(80, _)] (Sub.cons (e11 _ rfl) (Sub.refl _)) ?_
                    refine W.move rfl rfl ?_
                    refine W.nil ?_
                    exact At.step (Ext.refl _) rfl
                  refine And.intro ?_ ?_
                  · intro L_ wr hX_ hs_ hf_ hd_
                    obtain ⟨v12, e12, r12⟩ := hd_ 12 rfl
                    obtain rfl : (.bool true : Value) = v12 := Eq.symm r12
                    refine W.step [(81, _)] (Sub.cons (e12 _ rfl) (Sub.refl _)) ?_
                    refine W.skips rfl rfl rfl rfl rfl rfl ?_
                    refine W.nil ?_
                    exact At.step (Ext.refl _) rfl
                  refine And.intro ?_ ?_
                  · intro L_ wr hX_ hs_ hf_ hd_
                    obtain ⟨v12, e12, r12⟩ := hd_ 12 rfl
                    obtain rfl : (.bool true : Value) = v12 := Eq.symm r12
                    refine W.step [(81, _)] (Sub.cons (e12 _ rfl) (Sub.refl _)) ?_
                    refine W.skips rfl rfl rfl rfl rfl rfl ?_
                    refine W.nil ?_
                    exact At.step (Ext.refl _) rfl
                  refine And.intro ?_ ?_
                  · intro L_ wr hX_ hs_ hf_ hd_
                    obtain ⟨v12, e12, r12⟩ := hd_ 12 rfl
                    obtain rfl : (.bool true : Value) = v12 := Eq.symm r12
                    refine W.step [(81, _)] (Sub.cons (e12 _ rfl) (Sub.refl _)) ?_
                    refine W.skips rfl rfl rfl rfl rfl rfl ?_
                    refine W.nil ?_
                    exact At.step (Ext.refl _) rfl
                  refine And.intro ?_ ?_
                  · intro L_ wr hX_ hs_ hf_ hd_
                    obtain ⟨v12, e12, r12⟩ := hd_ 12 rfl
                    obtain rfl : (.bool true : Value) = v12 := Eq.symm r12
                    refine W.step [(81, _)] (Sub.cons (e12 _ rfl) (Sub.refl _)) ?_
                    refine W.skips rfl rfl rfl rfl rfl rfl ?_
                    refine W.nil ?_
                    exact At.step (Ext.refl _) rfl
                  refine And.intro ?_ ?_
                  · intro L_ wr hX_ hs_ hf_ hd_
                    obtain ⟨v12, e12, r12⟩ := hd_ 12 rfl
                    obtain rfl : (.bool true : Value) = v12 := Eq.symm r12
                    refine W.step [(81, _)] (Sub.cons (e12 _ rfl) (Sub.refl _)) ?_
                    refine W.skips rfl rfl rfl rfl rfl rfl ?_
                    refine W.nil ?_
                    exact At.step (Ext.refl _) rfl
                  refine And.intro ?_ ?_
                  · intro L_ wr hX_ hs_ hf_ hd_
                    obtain ⟨v12, e12, r12⟩ := hd_ 12 rfl
                    obtain rfl : (.bool true : Value) = v12 := Eq.symm r12
                    refine W.step [(81, _)] (Sub.cons (e12 _ rfl) (Sub.refl _)) ?_
                    refine W.skips rfl rfl rfl rfl rfl rfl ?_
                    refine W.nil ?_
                    exact At.step (Ext.refl _) rfl
                  refine And.intro ?_ ?_
                  · intro L_ wr hX_ hs_ hf_ hd_
                    obtain ⟨v12, e12, r12⟩ := hd_ 12 rfl
                    obtain rfl : (.bool true : Value) = v12 := Eq.symm r12
                    refine W.step [(81, _)] (Sub.cons (e12 _ rfl) (Sub.refl _)) ?_
                    refine W.skips rfl rfl rfl rfl rfl rfl ?_
                    refine W.nil ?_
                    exact At.step (Ext.refl _) rfl
                  refine And.intro ?_ ?_
                  · intro L_ wr hX_ hs_ hf_ hd_
                    obtain ⟨v12, e12, r12⟩ := hd_ 12 rfl
                    obtain rfl : (.bool true : Value) = v12 := Eq.symm r12
                    obtain ⟨v19, e19, r19⟩ := hd_ 19 rfl
                    obtain rfl : (undef : Value) = v19 := Eq.symm r19
                    refine W.step [(81, _), (88, _)] (Sub.cons (e12 _ rfl) (Sub.cons (e19 _ rfl) (Sub.refl _))) ?_
                    refine W.pickT rfl rfl rfl ?_
                    refine W.nil ?_
                    exact At.step (Ext.refl _) rfl
                  exact trivial
                · intro L_ wr hX20 hs_ hv_
                  obtain ⟨v20, e20, r20⟩ := hv_ 20 (by decide)
                  obtain rfl : (.bool true : Value) = v20 := Eq.symm r20
                  refine W.weaken (l' := [(89, _), (0, _), (1, _), (5, _), (8, _), (9, _), (10, _), (11, _), (13, _), (14, _)]) (Sub.cons (e20 _ rfl) (Sub.cons (hs_ _ _ rfl) (Sub.cons (hs_ _ _ rfl) (Sub.cons (hs_ _ _ rfl) (Sub.cons (hs_ _ _ rfl) (Sub.cons (hs_ _ _ rfl) (Sub.cons (hs_ _ _ rfl) (Sub.cons (hs_ _ _ rfl) (Sub.cons (hs_ _ _ rfl) (Sub.cons (hs_ _ _ rfl) (Sub.nil))))))))))) ?_
                  refine W.nil ?_
                  refine At.thenCode ?_
                  refine C.condT rfl ?_
                  refine C.seq ?_
                  refine C.region ?_
                  refine W.assign rfl rfl ?_
                  refine W.nil ?_
                  refine At.thenCode ?_
                  refine C.ret ?_
                  refine At.blockRet ?_
                  refine At.thenRet ?_
                  refine At.thenRet ?_
                  refine At.blockRet ?_
                  refine At.thenRet ?_
                  refine At.blockRet ?_
                  refine At.thenRet ?_
                  refine At.thenRet ?_
                  refine At.blockRet ?_
                  refine At.thenRet ?_
                  refine At.ret1 Try.results5 rfl ?_
                  first
                  | exact ⟨rfl, Ext.below (((hXa.ext hL1.ext).ext (hX120.ext hX122)).ext hX126)⟩
                  | exact ⟨rfl, Ext.below ((hXa.ext hL1.ext).ext (hX2.ext hX20))⟩
                  | exact ⟨rfl, Ext.below hXa⟩
            · have hj' : j = part.length := by omega
              subst hj'
              rw [List.take_length] at hall
              have hE2 := Els.ext rLet hEP hX2
              have hL2 := hL1.xt hX2
              obtain ⟨hacc, hF2⟩ := hF1.step (by omega) hpk hpl hall
              have hbl := rB_len (r := r) (by omega) hpk hpl fun p hp => (hall p hp).1
              obtain ⟨B2, hB2⟩ : ∃ B2, B2 = acceptB B (rB r part) [] := ⟨_, rfl⟩
              have hFr : ∀ q, Fr w17 Y q → w17.heap.size ≤ q := fun q hq => hq.2
              refine C.exit ?_
              refine At.thenExit ?_
              refine At.thenExit ?_
              refine At.blockSelf ?_
              refine At.thenCode ?_
              refine C.seq ?_
              refine C.region ?_
              refine W.move rfl rfl ?_
              refine W.move rfl rfl ?_
              refine W.move rfl rfl ?_
              refine W.buildS (fs := _) [(0, 1), (1, 1), (2, 1), (3, 1)] (batC (rB r part) (.slice none 0 0) (.slice aP part.length cP)) [(.int .i64 0), (.int .i64 0), (.slice none 0 0), (.slice none 0 0)] Try.underlying33 (by kernel_rfl) (by kernel_rfl) rfl rfl rfl ?_
              have hbm : BatM (Fr w17 Y) w2 (rB r part) (.slice none 0 0) (.slice aP part.length cP) := batM_of (by constructor <;> omega) (by constructor <;> decide) (RNums.nilM _ _) ⟨_, _, rfl, Els.new rLet hE2 fun q hq _ => hFr q hq⟩ (fun y hy => by simp at hy) hpk (by simp) (by omega) (fun p hp => by have := (hall p hp).1; omega)
              refine W.call Try.call11 rfl (hL2.Accept (by decide) (ps := []) hbm (Els.nil _ _ _ _) (Nat.zero_le _) (by omega) (by have := hF1.len; have : r * 3000 ≤ 11 * 3000 := Nat.mul_le_mul_right _ (by omega); omega) (by have := hF1.cnt; omega)) rfl ?_
              rintro v94 w94 ⟨rfl, hL94, hC94⟩
              rw [hacc]
              rw [← hB2] at hL94 hF2
              refine W.assign rfl rfl ?_
              refine W.nil ?_
              refine At.thenCode ?_
              refine C.seq ?_
              refine C.seq ?_
              refine C.region ?_
              refine W.move rfl rfl ?_
              refine W.call Try.call14 rfl (Law23.num_ok _ _) rfl ?_
              rintro v96 w96 ⟨rfl, rfl⟩
              refine W.neqI rfl rfl rfl ?_
              refine W.eqv (bF (fun h => h rfl)) ?_
              refine W.nil ?_
              refine At.thenCode ?_
              refine C.condF rfl ?_
              refine C.skip ?_
              refine At.thenCode ?_
              refine C.seq ?_
              refine C.region ?_
              refine W.assign rfl rfl ?_
              refine W.nil ?_
              refine At.thenCode ?_
              refine C.block ?_
              refine C.loop (X := Nat × Value × ((Nat → Prop))) (fun x_ => [(0, .slice ao ls.length c), (1, .slice ac cs.length cc), (5, .pointer (some ⟨g5, 0, none⟩)), (8, .pointer (some ⟨g, 0, none⟩)), (9, .int .i64 (m : Int)), (10, x_.2.1), (11, .int .i64 (r : Int)), (13, .slice aP part.length cP), (16, .int .i64 (x_.1 : Int))]) (fun x_ w3 => x_.1 ≤ part.length ∧ Live w17 w3 x_.2.2 g dg (max 0 100000) B2 ∧ OwE (fun q_ => w17.heap.size ≤ q_) w3 w17.heap.size 53 33 RLet x_.2.1 (wantL k (ls.take n ++ part.take x_.1)) ∧ (∀ q_, x_.2.1.ownBlock = some q_ → x_.2.2 q_) ∧ Els (fun q_ => w17.heap.size ≤ q_) w3 33 RLet aP cP part) (fun x_ => part.length - x_.1) (0, v, Y) (Sub.cons (rfl) (Sub.cons (rfl) (Sub.cons (rfl) (Sub.cons (rfl) (Sub.cons (rfl) (Sub.cons (rfl) (Sub.cons (rfl) (Sub.cons (rfl) (Sub.cons (rfl) (Sub.nil)))))))))) ?start3 ?_
              case start3 =>
                show (0) ≤ part.length ∧ Live w17 _ (Y) g dg (max 0 100000) B2 ∧ OwE (fun q_ => w17.heap.size ≤ q_) _ w17.heap.size 53 33 RLet (v) (wantL k (ls.take n ++ part.take (0))) ∧ (∀ q_, (v).ownBlock = some q_ → (Y) q_) ∧ Els (fun q_ => w17.heap.size ≤ q_) _ 33 RLet aP cP part
                exact ⟨by omega, hL94, by rw [List.take_zero, List.append_nil]; exact OwE.chgS rLet (OwE.ext rLet hO1 hX2) hC94 hFr fun q hq hf => hf.1 (hvY q hq), hvY, Els.chg rLet hE2 (hC94.mono hFr)⟩
              rintro ⟨i, v3, Y3⟩ w3 hI_
              replace hI_ : i ≤ part.length ∧ Live w17 w3 Y3 g dg (max 0 100000) B2 ∧ OwE (fun q_ => w17.heap.size ≤ q_) w3 w17.heap.size 53 33 RLet v3 (wantL k (ls.take n ++ part.take i)) ∧ (∀ q_, v3.ownBlock = some q_ → Y3 q_) ∧ Els (fun q_ => w17.heap.size ≤ q_) w3 33 RLet aP cP part := hI_
              obtain ⟨hi, hL3, hO3, hvY3, hE3⟩ := hI_
              refine C.weaken (l' := [(0, .slice ao ls.length c), (1, .slice ac cs.length cc), (5, .pointer (some ⟨g5, 0, none⟩)), (8, .pointer (some ⟨g, 0, none⟩)), (9, .int .i64 (m : Int)), (10, v3), (11, .int .i64 (r : Int)), (13, .slice aP part.length cP), (16, .int .i64 (i : Int))]) (Sub.cons (rfl) (Sub.cons (rfl) (Sub.cons (rfl) (Sub.cons (rfl) (Sub.cons (rfl) (Sub.cons (rfl) (Sub.cons (rfl) (Sub.cons (rfl) (Sub.cons (rfl) (Sub.nil)))))))))) ?_
              refine C.seq ?_
              refine C.seq ?_
              refine C.region ?_
              refine W.move rfl rfl ?_
              refine W.move rfl rfl ?_
              refine W.lenS rfl Try.underlying31 rfl ?_
              refine W.lssI rfl rfl rfl ?_
              refine W.nil ?_
              refine At.thenCode ?_
              first | refine C.condD rfl (fun c101 => ?_) (fun c101 => ?_) | refine C.cond rfl (fun c101 => ?_) (fun c101 => ?_)
              · have hil : i < part.length := by omega
                obtain ⟨p, hp⟩ : ∃ p, p = part[i] := ⟨_, rfl⟩
                have hpk1 : p.1.length = 32 := hpk p (hp ▸ List.getElem_mem hil)
                have hB3 := hB17.ext hL3.ext
                have hEN3 : Els (fun _ => False) w3 33 RLet aP cP part := Els.new rLet hE3 fun _ h _ => h.elim
                refine C.skip ?_
                refine At.thenCode ?_
                refine C.seq ?_
                refine C.block ?_
                refine C.seq ?_
                refine C.regionAny 7 ((fun v w => v = .slice aP part.length cP) :: (fun v w => v = .int .i64 (i : Int)) :: (fun v w => ∃ ad, v = .pointer (some ad) ∧ ∃ v1, Cells w ad (p.1.map byteV ++ [v1]) ∧ RByt NoA w [v1] p.2 ∧ p.1.length = 32) :: (fun v w => ∃ ad, v = .pointer (some ad) ∧ Cells w ad (p.1.map byteV) ∧ p.1.length = 32) :: (fun v w => v = .agg (p.1.map byteV).toArray) :: (fun v w => v = .agg (k.map byteV).toArray) :: (fun v w => v = .bool (decide (p.1 = k))) :: []) [(0, .slice ao ls.length c), (1, .slice ac cs.length cc), (5, .pointer (some ⟨g5, 0, none⟩)), (8, .pointer (some ⟨g, 0, none⟩)), (9, .int .i64 (m : Int)), (10, v3), (11, .int .i64 (r : Int)), (13, .slice aP part.length cP), (16, .int .i64 (i : Int))] [] (Sub.cons (rfl) (Sub.cons (rfl) (Sub.cons (rfl) (Sub.cons (rfl) (Sub.cons (rfl) (Sub.cons (rfl) (Sub.cons (rfl) (Sub.cons (rfl) (Sub.cons (rfl) (Sub.nil)))))))))) (Sub.nil) (Sub.cons (rfl) (Sub.cons (rfl) (Sub.cons (rfl) (Sub.cons (rfl) (Sub.cons (rfl) (Sub.cons (rfl) (Sub.cons (rfl) (Sub.cons (rfl) (Sub.cons (rfl) (Sub.nil)))))))))) (by kernel_rfl) rfl rfl rfl (And.intro (fun _ _ _ h _ => h) (And.intro (fun _ _ _ h _ => h) (And.intro (fun _ _ _ h g => by obtain ⟨ad, e, v1, h1, h2, h3⟩ := h; exact ⟨ad, e, v1, h1.chg g (fun c => c), RdOk.ext rByt h2 g, h3⟩) (And.intro (fun _ _ _ h g => by obtain ⟨ad, e, h1, h3⟩ := h; exact ⟨ad, e, h1.chg g (fun c => c), h3⟩) (And.intro (fun _ _ _ h _ => h) (And.intro (fun _ _ _ h _ => h) (And.intro (fun _ _ _ h _ => h) (trivial)))))))) ?_ ?_
                · refine And.intro ?_ ?_
                  · intro L_ wr hX_ hs_ hf_ hd_
                    refine W.step [(13, _)] (Sub.cons (hs_ _ _ rfl) (Sub.refl _)) ?_
                    refine W.move rfl rfl ?_
                    refine W.nil ?_
                    exact At.step (Ext.refl _) rfl
                  refine And.intro ?_ ?_
                  · intro L_ wr hX_ hs_ hf_ hd_
                    refine W.step [(16, _)] (Sub.cons (hs_ _ _ rfl) (Sub.refl _)) ?_
                    refine W.move rfl rfl ?_
                    refine W.nil ?_
                    exact At.step (Ext.refl _) rfl
                  refine And.intro ?_ ?_
                  · intro L_ wr hX_ hs_ hf_ hd_
                    obtain ⟨v0, e0, r0⟩ := hd_ 0 rfl
                    obtain rfl : (.slice aP part.length cP : Value) = v0 := Eq.symm r0
                    obtain ⟨v1, e1, r1⟩ := hd_ 1 rfl
                    obtain rfl : (.int .i64 (i : Int) : Value) = v1 := Eq.symm r1
                    refine W.step [(104, _), (105, _)] (Sub.cons (e0 _ rfl) (Sub.cons (e1 _ rfl) (Sub.refl _))) ?_
                    refine W.indexE ELet Try.underlying31 rfl (hEN3.ext rLet hX_) rfl hil rfl ?_
                    rintro ad106 cs106 hc106 ⟨v106, rfl, hR106, hx106⟩ _
                    rw [← hp] at hR106 hx106 hc106
                    refine W.nil ?_
                    exact At.step (Ext.refl _) ⟨ad106, rfl, v106, hc106, hR106, hx106⟩
                  refine And.intro ?_ ?_
                  · intro L_ wr hX_ hs_ hf_ hd_
                    obtain ⟨v2, e2, r2⟩ := hd_ 2 rfl
                    obtain ⟨ad2, rfl, v2, hc2, hR2, hk2⟩ := r2
                    refine W.step [(106, _)] (Sub.cons (e2 _ rfl) (Sub.refl _)) ?_
                    refine W.fieldAddr (off := 0) (size := 32) (t := 50) (Fld.of (by kernel_rfl)) rfl rfl rfl ?_
                    refine W.nil ?_
                    exact At.step (Ext.refl _) ⟨ad2.add 0, rfl, by rw [add_zero']; have := hc2.take 32; rwa [List.take_append_of_le_length (by simp [hk2]), List.take_of_length_le (by simp [hk2])] at this, hk2⟩
                  refine And.intro ?_ ?_
                  · intro L_ wr hX_ hs_ hf_ hd_
                    obtain ⟨v3, e3, r3⟩ := hd_ 3 rfl
                    obtain ⟨ad3, rfl, hc3, hk3⟩ := r3
                    refine W.step [(107, _)] (Sub.cons (e3 _ rfl) (Sub.refl _)) ?_
                    refine W.loadA rfl hc3 Try.underlying50 rfl (by rw [List.length_map, hk3]; kernel_rfl) rfl ?_
                    refine W.nil ?_
                    exact At.step (Ext.refl _) rfl
                  refine And.intro ?_ ?_
                  · intro L_ wr hX_ hs_ hf_ hd_
                    refine W.step [(5, _)] (Sub.cons (hs_ _ _ rfl) (Sub.refl _)) ?_
                    refine W.loadA rfl ((hB3.ext hX_).cells (o := 0)) Try.underlying50 rfl (by rw [List.drop_zero, List.length_map, hk]; kernel_rfl) rfl ?_
                    rw [List.drop_zero]
                    refine W.nil ?_
                    exact At.step (Ext.refl _) rfl
                  refine And.intro ?_ ?_
                  · intro L_ wr hX_ hs_ hf_ hd_
                    obtain ⟨v4, e4, r4⟩ := hd_ 4 rfl
                    obtain rfl : (.agg (p.1.map byteV).toArray : Value) = v4 := Eq.symm r4
                    obtain ⟨v5, e5, r5⟩ := hd_ 5 rfl
                    obtain rfl : (.agg (k.map byteV).toArray : Value) = v5 := Eq.symm r5
                    refine W.step [(108, _), (109, _)] (Sub.cons (e4 _ rfl) (Sub.cons (e5 _ rfl) (Sub.refl _))) ?_
                    refine W.eqlKey (n := 32) Try.underlying50 Try.underlying5 (by kernel_rfl) rfl rfl hpk1 hk (by kernel_rfl) rfl ?_
                    refine W.nil ?_
                    exact At.step (Ext.refl _) rfl
                  exact trivial
                · intro L_ wr hX28 hs_ hv_
                  obtain ⟨v6, e6, r6⟩ := hv_ 6 (by decide)
                  obtain rfl : (.bool (decide (p.1 = k)) : Value) = v6 := Eq.symm r6
                  refine W.weaken (l' := [(110, _), (0, _), (1, _), (5, _), (8, _), (9, _), (10, _), (11, _), (13, _), (16, _)]) (Sub.cons (e6 _ rfl) (Sub.cons (hs_ _ _ rfl) (Sub.cons (hs_ _ _ rfl) (Sub.cons (hs_ _ _ rfl) (Sub.cons (hs_ _ _ rfl) (Sub.cons (hs_ _ _ rfl) (Sub.cons (hs_ _ _ rfl) (Sub.cons (hs_ _ _ rfl) (Sub.cons (hs_ _ _ rfl) (Sub.cons (hs_ _ _ rfl) (Sub.nil))))))))))) ?_
                  refine W.nil ?_
                  refine At.thenCode ?_
                  first | refine C.condD rfl (fun c110 => ?_) (fun c110 => ?_) | refine C.cond rfl (fun c110 => ?_) (fun c110 => ?_)
                  · refine C.region ?_
                    refine W.move rfl rfl ?_
                    refine W.move rfl rfl ?_
                    refine W.move rfl rfl ?_
                    refine W.indexE ELet Try.underlying31 rfl (hE3.ext rLet hX28) rfl hil rfl ?_
                    intro ad114 cs114 hc114 hR114 hl114
                    rw [← hp] at hR114
                    refine W.loadA rfl hc114 Try.underlying53 rfl (by rw [hl114]; kernel_rfl) rfl ?_
                    refine W.litS cs114 ELet Try.underlying31 rfl hl114 (by decide) rfl ?_
                    intro g116 w116 hg116 hX116 _ hs116
                    have hXc := hX28.ext hX116
                    have hlt3 := fun q hq => OwE.lt hO3 q hq
                    have hs3 := hL3.ext.size
                    have hs116' := hXc.size
                    have hwl : (wantL k (ls.take n ++ part.take i)).length ≤ 40 := by
                      refine Nat.le_trans (List.length_filter_le _ _) ?_
                      rw [List.length_append, List.length_take, List.length_take]; omega
                    refine W.appendE1 rLet ELet Try.underlying31 rfl rfl (OwE.ext rLet hO3 hXc) hs116 (RdOk.new rLet (RdOk.ext rLet hR114 hX116) fun q hq _ => by
                      rcases hq with hq | hq
                      · exact hq
                      · exact (hlt3 q hq).1) (by omega) (by omega) (by omega) rfl ?_
                    intro v117 w117 hO117 hg117 hl117
                    have hL116 := hL3.xt hXc
                    have hC117 : Chg (fun q => v3.ownBlock = some q) w116 w117 := (Chg.of_grown hg117).mono fun q hq => hq.symm
                    have hL117 := Live.grow hL116 hC117 fun q hq => ⟨hvY3 q hq, (hlt3 q hq).1⟩
                    have hE117 := Els.chg rLet (Els.ext rLet hE3 hXc) (hC117.mono fun q hq => (hlt3 q hq).1)
                    refine W.assign rfl rfl ?_
                    refine W.nil ?_
                    refine At.blockNormal ?_
                    refine At.thenCode ?_
                    refine C.region ?_
                    refine W.move rfl rfl ?_
                    first | refine W.addI rfl rfl (by omega) rfl ?_ | refine W.addW rfl rfl rfl ?_
                    refine W.assign rfl rfl ?_
                    refine W.nil ?_
                    refine At.thenRound (i + 1, v117, More Y3 w116 w117) (Sub.cons (rfl) (Sub.cons (rfl) (Sub.cons (rfl) (Sub.cons (rfl) (Sub.cons (rfl) (Sub.cons (rfl) (Sub.cons (rfl) (Sub.cons (rfl) (Sub.cons (look_eq rfl (iV (by omega))) (Sub.nil)))))))))) (show (i + 1) ≤ part.length ∧ Live w17 _ (More Y3 w116 w117) g dg (max 0 100000) B2 ∧ OwE (fun q_ => w17.heap.size ≤ q_) _ w17.heap.size 53 33 RLet (v117) (wantL k (ls.take n ++ part.take (i + 1))) ∧ (∀ q_, (v117).ownBlock = some q_ → (More Y3 w116 w117) q_) ∧ Els (fun q_ => w17.heap.size ≤ q_) _ 33 RLet aP cP part from ?_) (show part.length - (i + 1) < part.length - i from ?_)
                    · refine ⟨by omega, hL117, ?_, fun q hq => ?_, hE117⟩
                      · rw [List.take_succ_eq_append_getElem hil, ← List.append_assoc, wantL_append, ← hp, show wantL k [p] = [p] by simp [wantL, c110]]
                        exact hO117
                      · have hq2 := OwE.lt hO117 q hq
                        rcases hl117 with h | ⟨q', h, h'⟩
                        · rw [h] at hq; exact .inl (hvY3 q hq)
                        · rw [h] at hq; obtain rfl := Option.some.inj hq; exact .inr ⟨h', hq2.2⟩
                    · omega
                  · refine C.skip ?_
                    refine At.blockNormal ?_
                    refine At.thenCode ?_
                    refine C.region ?_
                    refine W.move rfl rfl ?_
                    first | refine W.addI rfl rfl (by omega) rfl ?_ | refine W.addW rfl rfl rfl ?_
                    refine W.assign rfl rfl ?_
                    refine W.nil ?_
                    refine At.thenRound (i + 1, v3, Y3) (Sub.cons (rfl) (Sub.cons (rfl) (Sub.cons (rfl) (Sub.cons (rfl) (Sub.cons (rfl) (Sub.cons (rfl) (Sub.cons (rfl) (Sub.cons (rfl) (Sub.cons (look_eq rfl (iV (by omega))) (Sub.nil)))))))))) (show (i + 1) ≤ part.length ∧ Live w17 _ (Y3) g dg (max 0 100000) B2 ∧ OwE (fun q_ => w17.heap.size ≤ q_) _ w17.heap.size 53 33 RLet (v3) (wantL k (ls.take n ++ part.take (i + 1))) ∧ (∀ q_, (v3).ownBlock = some q_ → (Y3) q_) ∧ Els (fun q_ => w17.heap.size ≤ q_) _ 33 RLet aP cP part from ?_) (show part.length - (i + 1) < part.length - i from ?_)
                    · refine ⟨by omega, hL3.xt hX28, ?_, hvY3, Els.ext rLet hE3 hX28⟩
                      rw [List.take_succ_eq_append_getElem hil, ← List.append_assoc, wantL_append, ← hp, show wantL k [p] = [] by simp [wantL, c110], List.append_nil]
                      exact OwE.ext rLet hO3 hX28
                    · omega
              · have hi' : i = part.length := by omega
                subst hi'
                rw [List.take_length, ← hcut] at hO3
                refine C.exit ?_
                refine At.thenExit ?_
                refine At.thenExit ?_
                refine At.blockSelf ?_
                refine At.blockNormal ?_
                refine At.thenCode ?_
                refine C.region ?_
                refine W.move rfl rfl ?_
                first | refine W.addI rfl rfl (by omega) rfl ?_ | refine W.addW rfl rfl rfl ?_
                refine W.assign rfl rfl ?_
                refine W.nil ?_
                refine At.thenRound (r + 1, m, v3, B2, ps ++ [1 :: batB (rB r part)], Y3) (Sub.cons (rfl) (Sub.cons (rfl) (Sub.cons (rfl) (Sub.cons (rfl) (Sub.cons (rfl) (Sub.cons (rfl) (Sub.cons (look_eq rfl (iV (by omega))) (Sub.nil)))))))) (show (r + 1) ≤ cs.length + 1 ∧ (m) ≤ ls.length ∧ (cs.length < (r + 1) → (m) = ls.length) ∧ Live w17 _ (Y3) g dg (max 0 100000) (B2) ∧ FetP k (r + 1) (wantL k (ls.take (m))) (B2) (ps ++ [1 :: batB (rB r part)]) ∧ OwE (fun q_ => w17.heap.size ≤ q_) _ w17.heap.size 53 33 RLet (v3) (wantL k (ls.take (m))) ∧ (∀ q_, (v3).ownBlock = some q_ → (Y3) q_) from ?_) (show cs.length + 1 - (r + 1) < cs.length + 1 - r from ?_)
                · refine ⟨by omega, hml, fun h => hm2 (by omega), hL3, ?_, hO3, hvY3⟩
                  rw [hcut, wantL_append]; exact hF2
                · omega
      · have hr' : r = cs.length + 1 := by omega
        have hnl' := hlast (by omega)
        subst hnl'
        rw [List.take_length] at hO1 hF1
        have hf1 : fetchL B.s.l k 0 100 = wantL k ls := by rw [fetch_all fun x hx => by have := hF1.rounds x hx; omega]; exact hF1.held
        have hf2 : fetchL B.s.l k 101 200 = [] := fetch_none fun x hx => by have := hF1.rounds x hx; omega
        have hcnt := hF1.cnt
        obtain ⟨aW, cW, rfl, hEW, _⟩ := OwE.form rLet (OwE.new rLet hO1 (B := fun _ => False) fun _ h _ => h.elim) (fun _ _ h => h)
        have hwl : (wantL k ls).length ≤ 20 := Nat.le_trans (List.length_filter_le _ _) (by omega)
        have hB1 := hB17.ext hL1.ext
        refine C.exit ?_
        refine At.thenExit ?_
        refine At.thenExit ?_
        refine At.blockSelf ?_
        refine At.thenCode ?_
        refine C.seq ?_
        refine C.region ?_
        refine W.move rfl rfl ?_
        refine W.loadA rfl (hB1.cells (o := 0)) Try.underlying50 rfl (by rw [List.drop_zero, List.length_map, hk]; kernel_rfl) rfl ?_
        rw [List.drop_zero]
        refine W.call Try.call20 rfl (hL1.Fetch (name := k) (a := 0) (c := 100) hk (by constructor <;> decide) (by constructor <;> decide) (by omega)) rfl ?_
        rintro v120 w120 ⟨a120, c120, rfl, hE120, hX120⟩
        rw [hf1] at hE120 ⊢
        refine W.move rfl rfl ?_
        refine W.call Try.call19 rfl (Cod.SameLetters_ok a120 c120 aW cW (wantL k ls) _ (Els.new rLet hE120 fun _ h _ => h.elim) (Els.ext rLet hEW hX120) (by omega)) rfl ?_
        rintro v122 w122 ⟨rfl, hX122⟩
        refine W.eqv (v' := .bool true) (rfl) ?_
        refine W.move rfl rfl ?_
        refine W.wants rfl rfl rfl rfl ?_
        refine W.move rfl rfl ?_
        refine W.wants rfl rfl rfl rfl ?_
        refine W.loadA rfl (((hB1.ext hX120).ext hX122).cells (o := 0)) Try.underlying50 rfl (by rw [List.drop_zero, List.length_map, hk]; kernel_rfl) rfl ?_
        rw [List.drop_zero]
        refine W.wants rfl rfl rfl rfl ?_
        refine W.call Try.call20 rfl (((hL1.xt hX120).xt hX122).Fetch (name := k) (a := 101) (c := 200) hk (by constructor <;> decide) (by constructor <;> decide) (by omega)) rfl ?_
        rintro v126 w126 ⟨a126, c126, rfl, hE126, hX126⟩
        rw [hf2]
        refine W.wants rfl rfl rfl rfl ?_
        refine W.lenS rfl Try.underlying31 rfl ?_
        refine W.wants rfl rfl rfl rfl ?_
        refine W.eqlI rfl rfl rfl ?_
        refine W.eqv (bT (rfl)) ?_
        refine W.pickT rfl rfl rfl ?_
        refine W.assign rfl rfl ?_
        refine W.nil ?_
        refine At.thenCode ?_
        refine C.ret ?_
        refine At.ret1 Try.results5 rfl ?_
        first
        | exact ⟨rfl, Ext.below (((hXa.ext hL1.ext).ext (hX120.ext hX122)).ext hX126)⟩
        | exact ⟨rfl, Ext.below ((hXa.ext hL1.ext).ext (hX2.ext hX20))⟩
        | exact ⟨rfl, Ext.below hXa⟩
end Go.Proofs.Ythiijdbiikljpaa.Law23
