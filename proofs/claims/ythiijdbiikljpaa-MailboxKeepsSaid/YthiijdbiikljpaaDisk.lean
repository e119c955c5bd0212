/- Package disk and the reference's disk of chapter 22. -/
import Derived.Test.YthiijdbiikljpaaWords
import Derived.Test.YthiijdbiikljpaaKe
import Derived.Test.YthiijdbiikljpaaKr
namespace Go.Proofs.Ythiijdbiikljpaa.Disk
open Go Go.RowKit Go.Proofs.Ythiijdbiikljpaa.KW Go.Proofs.Ythiijdbiikljpaa.Words
set_option linter.unusedVariables false
set_option linter.unusedSimpArgs false
set_option maxRecDepth 100000

abbrev Zs (w : World) (ao : Option Addr) (c : Nat) (xs : List Int) : Prop := Sl w ao xs.length c 1 (xs.map (.int .i64))
theorem z_oneCell (xs : List Int) : ∀ u ∈ (xs.map (.int .i64) : List Value), u.oneCell' = true := by
  intro u hu
  obtain ⟨_, _, rfl⟩ := List.mem_map.1 hu
  rfl
theorem get_z {xs : List Int} {i : Nat} (h : i < xs.length) : (xs.map (.int .i64) : List Value)[i]? = some (.int .i64 (xs[i]'h)) := by
  rw [List.getElem?_map, List.getElem?_eq_getElem h]; rfl

/-! ### copies -/
theorem cloneB_ok (ao : Option Addr) (c : Nat) (xs : List UInt8) (w : World) (hS : Bs w ao c xs) (hl : xs.length ≤ 1000000000000) :
    Ct Try.prog 37 #[.slice ao xs.length c] w (fun v w' => Ow w' w.heap.size 5 v xs ∧ Ext w w') := by
  refine Ct.enter [(0, .slice ao xs.length c)] Try.func37 rfl rfl rfl rfl ?_
  refine C.seq ?_
  refine C.region ?_
  refine W.assign rfl rfl ?_
  refine W.nil ?_
  refine At.thenCode ?_
  refine C.seq ?_
  refine C.seq ?_
  refine C.region ?_
  refine W.move rfl rfl ?_
  refine W.eqlNil Try.underlying51 rfl rfl rfl ?_
  refine W.nil ?_
  refine At.thenCode ?_
  first | refine C.condD rfl (fun c4 => ?_) (fun c4 => ?_) | refine C.cond rfl (fun c4 => ?_) (fun c4 => ?_)
  · obtain rfl : ao = none := by cases ao with
      | none => rfl
      | some a => cases c4
    have hc0 := hS.nil rfl
    have hle := hS.le
    obtain rfl : xs = [] := List.eq_nil_of_length_eq_zero (by omega)
    refine C.seq ?_
    refine C.region ?_
    refine W.assign rfl rfl ?_
    refine W.nil ?_
    refine At.thenCode ?_
    refine C.ret ?_
    refine At.thenRet ?_
    refine At.ret1 Try.results37 rfl ?_
    first | exact ⟨ho7, hX7⟩ | exact ⟨Ow.nil _ _ _, Ext.refl _⟩
  · refine C.skip ?_
    refine At.thenCode ?_
    refine C.seq ?_
    refine C.region ?_
    refine W.lit0 E8 Try.underlying51 rfl ?_
    intro g5 w5 hg5 hX5 ho5
    refine W.move rfl rfl ?_
    refine W.appendB (xs := []) E8 Try.underlying51 rfl rfl ho5 (hS.ext hX5) (by simp; omega) hX5.size rfl ?_
    rw [List.nil_append]
    intro v7 w7 ho7 hg7 _
    have hX7 : Ext w w7 := hX5.news (Chg.of_grown hg7) (fun k hk => Or.inr ((World.ownsRow.lt ho5 k hk.symm).1))
    refine W.assign rfl rfl ?_
    refine W.nil ?_
    refine At.thenCode ?_
    refine C.ret ?_
    refine At.ret1 Try.results37 rfl ?_
    first | exact ⟨ho7, hX7⟩ | exact ⟨Ow.nil _ _ _, Ext.refl _⟩
theorem cloneZ_ok (ao : Option Addr) (c : Nat) (xs : List Int) (w : World) (hS : Zs w ao c xs) (hl : xs.length ≤ 1000000000000) :
    Ct Try.prog 40 #[.slice ao xs.length c] w (fun v w' => w'.ownsRow w.heap.size 3 1 v xs.length (xs.map (.int .i64)) ∧ Ext w w') := by
  refine Ct.enter [(0, .slice ao xs.length c)] Try.func40 rfl rfl rfl rfl ?_
  refine C.seq ?_
  refine C.region ?_
  refine W.assign rfl rfl ?_
  refine W.nil ?_
  refine At.thenCode ?_
  refine C.seq ?_
  refine C.seq ?_
  refine C.region ?_
  refine W.move rfl rfl ?_
  refine W.eqlNil Try.underlying22 rfl rfl rfl ?_
  refine W.nil ?_
  refine At.thenCode ?_
  first | refine C.condD rfl (fun c4 => ?_) (fun c4 => ?_) | refine C.cond rfl (fun c4 => ?_) (fun c4 => ?_)
  · obtain rfl : ao = none := by cases ao with
      | none => rfl
      | some a => cases c4
    have hc0 := hS.nil rfl
    have hle := hS.le
    obtain rfl : xs = [] := List.eq_nil_of_length_eq_zero (by omega)
    refine C.seq ?_
    refine C.region ?_
    refine W.assign rfl rfl ?_
    refine W.nil ?_
    refine At.thenCode ?_
    refine C.ret ?_
    refine At.thenRet ?_
    refine At.ret1 Try.results40 rfl ?_
    first | exact ⟨ho7, hX7⟩ | exact ⟨World.ownsRow_nil _ _ _ _, Ext.refl _⟩
  · refine C.skip ?_
    refine At.thenCode ?_
    refine C.seq ?_
    refine C.region ?_
    refine W.lit0 XI Try.underlying22 rfl ?_
    intro g5 w5 hg5 hX5 ho5
    refine W.move rfl rfl ?_
    refine W.append (cs := []) XI Try.underlying22 rfl rfl ho5 (hS.ext hX5) (z_oneCell xs) (by omega) (by omega) hX5.size rfl ?_
    rw [List.nil_append, Nat.zero_add]
    intro v7 w7 ho7 hg7 _
    have hX7 : Ext w w7 := hX5.news (Chg.of_grown hg7) (fun k hk => Or.inr ((World.ownsRow.lt ho5 k hk.symm).1))
    refine W.assign rfl rfl ?_
    refine W.nil ?_
    refine At.thenCode ?_
    refine C.ret ?_
    refine At.ret1 Try.results40 rfl ?_
    first | exact ⟨ho7, hX7⟩ | exact ⟨World.ownsRow_nil _ _ _ _, Ext.refl _⟩

/-! ### what a disk is -/
structure Dsk where
  room : Nat
  bs : List UInt8
  syn : Nat
  fails : List Int
def failB (D : Dsk) : Bool := match D.fails with
  | [] => false
  | x :: _ => decide (¬ x = 0)
def failD (D : Dsk) : Dsk := ⟨D.room, D.bs, D.syn, D.fails.tail⟩
def Full (D : Dsk) (n : Nat) : Prop := D.room < D.bs.length + n
instance (D : Dsk) (n : Nat) : Decidable (Full D n) := by unfold Full; infer_instance
def appE (D : Dsk) (b : List UInt8) : Nat := if failB D = true ∨ Full D b.length then 7 else 0
def appD (D : Dsk) (b : List UInt8) : Dsk := ⟨D.room, if failB D = true ∨ Full D b.length then D.bs else D.bs ++ b, D.syn, D.fails.tail⟩
def synE (D : Dsk) : Nat := if failB D = true then 7 else 0
def synD (D : Dsk) : Dsk := ⟨D.room, D.bs, if failB D = true then D.syn else D.bs.length, D.fails.tail⟩
def CutBad (D : Dsk) (n : Int) : Prop := n < 0 ∨ (D.bs.length : Int) < n
instance (D : Dsk) (n : Int) : Decidable (CutBad D n) := by unfold CutBad; infer_instance
def cutE (D : Dsk) (n : Int) : Nat := if failB D = true then 7 else if CutBad D n then 1 else 0
def cutD (D : Dsk) (n : Int) : Dsk := ⟨D.room, if failB D = true ∨ CutBad D n then D.bs else D.bs.take n.toNat, if failB D = true ∨ CutBad D n then D.syn else n.toNat, D.fails.tail⟩
def keepN (D : Dsk) (keep : Int) : Nat := D.syn + (min (max 0 keep) ((D.bs.length - D.syn : Nat) : Int)).toNat
def crashD (D : Dsk) (keep : Int) : Dsk := ⟨D.room, D.bs.take (keepN D keep), keepN D keep, D.fails⟩
def setFails (D : Dsk) (l : List Int) : Dsk := ⟨D.room, D.bs, D.syn, l⟩
/-- Well formed. -/
structure Dsk.Ok (D : Dsk) : Prop where
  fits : D.bs.length ≤ D.room
  syn : D.syn ≤ D.bs.length
  small : D.bs.length ≤ 100000000000
  few : D.fails.length ≤ 100000000000
theorem keepN_le {D : Dsk} (h : D.Ok) (keep : Int) : D.syn ≤ keepN D keep ∧ keepN D keep ≤ D.bs.length := by
  have := h.syn
  unfold keepN
  omega
theorem failD_ok {D : Dsk} (h : D.Ok) : (failD D).Ok := ⟨h.fits, h.syn, h.small, by have := h.few; simp [failD]; omega⟩
theorem appD_ok {D : Dsk} (h : D.Ok) {b : List UInt8} (hb : D.bs.length + b.length ≤ 100000000000) : (appD D b).Ok := by
  have h1 := h.fits
  have h2 := h.syn
  have h3 := h.few
  refine ⟨?_, ?_, ?_, by simp [appD]; omega⟩
  · unfold appD
    show List.length _ ≤ D.room
    split
    · exact h1
    · rename_i hn
      rw [List.length_append]
      have : ¬ Full D b.length := fun c => hn (.inr c)
      unfold Full at this
      omega
  · unfold appD
    show D.syn ≤ List.length _
    split
    · exact h2
    · rw [List.length_append]; omega
  · unfold appD
    show List.length _ ≤ _
    split
    · exact h.small
    · rw [List.length_append]; omega
theorem synD_ok {D : Dsk} (h : D.Ok) : (synD D).Ok := by
  refine ⟨h.fits, ?_, h.small, by have := h.few; simp [synD]; omega⟩
  unfold synD
  show (if failB D = true then D.syn else D.bs.length) ≤ D.bs.length
  split
  · exact h.syn
  · exact Nat.le_refl _
theorem cutD_ok {D : Dsk} (h : D.Ok) (n : Int) : (cutD D n).Ok := by
  have h1 := h.fits
  have h2 := h.syn
  have h3 := h.small
  refine ⟨?_, ?_, ?_, by have := h.few; simp [cutD]; omega⟩
  · unfold cutD
    show List.length _ ≤ D.room
    split
    · exact h1
    · rw [List.length_take]; omega
  · unfold cutD
    show (if failB D = true ∨ CutBad D n then D.syn else n.toNat) ≤ List.length (if failB D = true ∨ CutBad D n then D.bs else D.bs.take n.toNat)
    split
    · exact h2
    · rename_i hn
      have : ¬ CutBad D n := fun c => hn (.inr c)
      unfold CutBad at this
      rw [List.length_take]; omega
  · unfold cutD
    show List.length _ ≤ _
    split
    · exact h3
    · rw [List.length_take]; omega
theorem crashD_ok {D : Dsk} (h : D.Ok) (keep : Int) : (crashD D keep).Ok := by
  have h1 := h.fits
  have h3 := h.small
  obtain ⟨h4, h5⟩ := keepN_le h keep
  refine ⟨?_, ?_, ?_, h.few⟩
  · show (D.bs.take (keepN D keep)).length ≤ D.room
    rw [List.length_take]; omega
  · show keepN D keep ≤ (D.bs.take (keepN D keep)).length
    rw [List.length_take]; omega
  · show (D.bs.take (keepN D keep)).length ≤ _
    rw [List.length_take]; omega
theorem setFails_ok {D : Dsk} (h : D.Ok) {l : List Int} (hl : l.length ≤ 100000000000) : (setFails D l).Ok := ⟨h.fits, h.syn, h.small, hl⟩

/-- A disk in memory: at block g; all its blocks are of F. -/
structure Dk (w : World) (F : Nat → Prop) (g : Nat) (rv : Int) (D : Dsk) : Prop where
  out : ∃ bo cb fo cf, Bk w g [.int .i64 rv, .slice bo D.bs.length cb, .int .i64 (D.syn : Int), .slice fo D.fails.length cf] ∧ Ow w 0 5 (.slice bo D.bs.length cb) D.bs ∧ Zs w fo cf D.fails ∧
    (∀ ad, bo = some ad → F ad.block ∧ ad.block ≠ g) ∧ (∀ ad, fo = some ad → D.fails ≠ [] → F ad.block ∧ ad.block ≠ g ∧ ∀ ad', bo = some ad' → ad.block ≠ ad'.block)
  own : F g
  lt : ∀ k, F k → k < w.heap.size
  ok : D.Ok
  room : max 0 rv = (D.room : Int)
  rvb : -9223372036854775808 ≤ rv ∧ rv ≤ 9223372036854775807
theorem Dk.chg {S F : Nat → Prop} {w w' : World} {g : Nat} {rv : Int} {D : Dsk} (h : Dk w F g rv D) (c : Chg S w w') (hd : ∀ k, F k → ¬ S k) : Dk w' F g rv D := by
  obtain ⟨bo, cb, fo, cf, h1, h2, h3, h4, h5⟩ := h.out
  refine ⟨⟨bo, cb, fo, cf, h1.chg c (hd _ h.own), ownsRow_chg h2 c (fun k hk => ?_), Sl.chg h3 c (fun ad e hne => ?_), h4, h5⟩, h.own, fun k hk => Nat.lt_of_lt_of_le (h.lt k hk) c.size, h.ok, h.room, h.rvb⟩
  · cases bo with
    | none => cases hk
    | some ad => obtain rfl := Option.some.inj hk; exact hd _ (h4 ad rfl).1
  · exact hd _ (h5 ad e (fun c => hne (by rw [c]; rfl))).1
theorem Dk.ext {F : Nat → Prop} {w w' : World} {g : Nat} {rv : Int} {D : Dsk} (h : Dk w F g rv D) (c : Ext w w') : Dk w' F g rv D := h.chg c fun _ _ x => x
/-- F and what is new. -/
def Grown (F : Nat → Prop) (w w' : World) : Nat → Prop := fun k => F k ∨ (w.heap.size ≤ k ∧ k < w'.heap.size)
theorem Dk.grow {F F' : Nat → Prop} {w : World} {g : Nat} {rv : Int} {D : Dsk} (h : Dk w F g rv D) (hF : ∀ k, F k → F' k) (hl : ∀ k, F' k → k < w.heap.size) : Dk w F' g rv D := by
  obtain ⟨bo, cb, fo, cf, h1, h2, h3, h4, h5⟩ := h.out
  exact ⟨⟨bo, cb, fo, cf, h1, h2, h3, fun ad e => ⟨hF _ (h4 ad e).1, (h4 ad e).2⟩, fun ad e hne => ⟨hF _ (h5 ad e hne).1, (h5 ad e hne).2⟩⟩, hF _ h.own, hl, h.ok, h.room, h.rvb⟩
theorem Grown.lt {F : Nat → Prop} {w w' : World} (hF : ∀ k, F k → k < w.heap.size) (hs : w.heap.size ≤ w'.heap.size) : ∀ k, Grown F w w' k → k < w'.heap.size := fun k hk => by
  rcases hk with hk | hk
  · have := hF k hk; omega
  · exact hk.2
theorem slice_own {bo : Option Addr} {n c k : Nat} (h : (Value.slice bo n c).ownBlock = some k) : ∃ ad, bo = some ad ∧ ad.block = k := by
  cases bo with
  | none => cases h
  | some ad => exact ⟨ad, rfl, Option.some.inj h⟩
theorem New_ok (room : Int) (w : World) (hr : -9223372036854775808 ≤ room ∧ room ≤ 9223372036854775807) : Ct Try.prog 9 #[.int .i64 room] w (fun v w' => ∃ g, v = .pointer (some ⟨g, 0, none⟩) ∧ Dk w' (Grown (fun _ => False) w w') g (max 0 room) ⟨room.toNat, [], 0, []⟩ ∧ Ext w w') := by
  refine Ct.enter [(0, .int .i64 room)] Try.func9 rfl rfl rfl rfl ?_
  refine C.seq ?_
  refine C.region ?_
  refine W.assign rfl rfl ?_
  refine W.nil ?_
  refine At.thenCode ?_
  refine C.seq ?_
  refine C.region ?_
  refine W.move rfl rfl ?_
  refine W.maxI rfl rfl rfl ?_
  refine W.buildS [(0, 1), (1, 1), (2, 1), (3, 1)] [.int .i64 (max 0 room), .slice none 0 0, .int .i64 0, .slice none 0 0] [(.int .i64 0), (.slice none 0 0), (.int .i64 0), (.slice none 0 0)] Try.underlying67 (by kernel_rfl) (by kernel_rfl) rfl rfl rfl ?_
  refine W.box [.int .i64 (max 0 room), .slice none 0 0, .int .i64 0, .slice none 0 0] rfl rfl rfl ?_
  intro g w2 hg hX hB
  have hl := hB.lt
  refine W.assign rfl rfl ?_
  refine W.nil ?_
  refine At.thenCode ?_
  refine C.ret ?_
  refine At.ret1 Try.results9 rfl ?_
  exact ⟨g, rfl, ⟨⟨none, 0, none, 0, hB, Ow.nil _ _ _, Sl.none _ 1, fun ad e => (by cases e), fun ad e => (by cases e)⟩, .inr ⟨by omega, hl⟩, fun k hk => hk.elim False.elim And.right, ⟨Nat.zero_le _, Nat.zero_le _, Nat.zero_le _, Nat.zero_le _⟩, by show max 0 _ = ((room.toNat : Nat) : Int); omega, by omega⟩, hX⟩
theorem failing_ok (F : Nat → Prop) (g : Nat) (rv : Int) (D : Dsk) (w : World) (hD : Dk w F g rv D) : Ct Try.prog 38 #[.pointer (some ⟨g, 0, none⟩)] w (fun v w' => v = .bool (failB D) ∧ Dk w' F g rv (failD D) ∧ Chg (fun k => k = g) w w') := by
  obtain ⟨bo, cb, fo, cf, h1, h2, h3, h4, h5⟩ := hD.out
  have hfew := hD.ok.few
  refine Ct.enter [(0, .pointer (some ⟨g, 0, none⟩))] Try.func38 rfl rfl rfl rfl ?_
  refine C.seq ?_
  refine C.region ?_
  refine W.assign rfl rfl ?_
  refine W.nil ?_
  refine At.thenCode ?_
  refine C.seq ?_
  refine C.seq ?_
  refine C.region ?_
  refine W.move rfl rfl ?_
  refine W.nilCheck rfl rfl ?_
  refine W.fieldB (off := 3) (size := 1) (t := 22) (Fld.of (by kernel_rfl)) rfl rfl rfl ?_
  refine W.loadB rfl Try.underlying22 rfl (by assumption) rfl rfl ?_
  refine W.lenS rfl Try.underlying22 rfl ?_
  refine W.eqlI rfl rfl rfl ?_
  refine W.nil ?_
  refine At.thenCode ?_
  first | refine C.condD rfl (fun c9 => ?_) (fun c9 => ?_) | refine C.cond rfl (fun c9 => ?_) (fun c9 => ?_)
  · refine C.seq ?_
    refine C.region ?_
    refine W.assign rfl rfl ?_
    refine W.nil ?_
    refine At.thenCode ?_
    refine C.ret ?_
    refine At.thenRet ?_
    refine At.ret1 Try.results38 rfl ?_
    have hnil : D.fails = [] := List.eq_nil_of_length_eq_zero (by omega)
    refine ⟨by unfold failB; rw [hnil], ?_, Chg.refl _ _⟩
    have e : failD D = D := by unfold failD; rw [hnil, List.tail_nil, ← hnil]
    rw [e]; exact hD
  · have hpos : 0 < D.fails.length := by omega
    obtain ⟨x, r, hxr⟩ : ∃ x r, D.fails = x :: r := List.exists_cons_of_ne_nil (by intro h; rw [h] at hpos; simp at hpos)
    refine C.skip ?_
    refine At.thenCode ?_
    refine C.seq ?_
    refine C.region ?_
    refine W.move rfl rfl ?_
    refine W.nilCheck rfl rfl ?_
    refine W.fieldB (off := 3) (size := 1) (t := 22) (Fld.of (by kernel_rfl)) rfl rfl rfl ?_
    refine W.loadB rfl Try.underlying22 rfl (by assumption) rfl rfl ?_
    refine W.indexS (i := 0) XI Try.underlying22 rfl h3 rfl ⟨by omega, by omega⟩ rfl ?_
    intro ad14 _ _ hc14
    refine W.load (v := .int .i64 x) rfl Try.underlying3 rfl (by have h := hc14 0 (.int .i64 x) (by rw [hxr]; rfl); rwa [add_zero'] at h) rfl ?_
    refine W.assign rfl rfl ?_
    refine W.nil ?_
    refine At.thenCode ?_
    refine C.seq ?_
    refine C.region ?_
    refine W.move rfl rfl ?_
    refine W.move rfl rfl ?_
    refine W.nilCheck rfl rfl ?_
    refine W.fieldB (off := 3) (size := 1) (t := 22) (Fld.of (by kernel_rfl)) rfl rfl rfl ?_
    refine W.loadB rfl Try.underlying22 rfl (by assumption) rfl rfl ?_
    refine W.slice (lo := 1) (hi := D.fails.length) XI Try.underlying22 rfl h3 (.inr ⟨_, .i64, rfl, rfl⟩) (.inl ⟨rfl, rfl⟩) (by omega) (Nat.le_refl _) rfl ?_
    intro ao21 c21 hS21 hb21
    have htl : D.fails.tail.length = D.fails.length - 1 := List.length_tail
    refine W.nilCheck rfl rfl ?_
    refine W.fieldB (off := 3) (size := 1) (t := 22) (Fld.of (by kernel_rfl)) rfl rfl rfl ?_
    refine W.store1 rfl rfl rfl h1 (by simp) (by kernel_rfl) ?_
    intro w2 hc2 hB2
    have hB2 : Bk w2 g [.int .i64 rv, .slice bo D.bs.length cb, .int .i64 (D.syn : Int), .slice ao21 (D.fails.length - 1) c21] := hB2
    refine W.nil ?_
    refine At.thenCode ?_
    refine C.seq ?_
    refine C.region ?_
    refine W.move rfl rfl ?_
    refine W.neqI rfl rfl rfl ?_
    refine W.assign rfl rfl ?_
    refine W.nil ?_
    refine At.thenCode ?_
    refine C.ret ?_
    refine At.ret1 Try.results38 rfl ?_
    have hS2 : Zs w ao21 c21 D.fails.tail := by
      show Sl _ _ _ _ _ _
      rw [htl]
      have e : (D.fails.tail.map (.int .i64) : List Value) = ((D.fails.map (.int .i64)).drop (1 * 1)).take ((D.fails.length - 1) * 1) := by
        rw [List.take_of_length_le (by rw [List.length_drop, List.length_map]; omega), Nat.mul_one, List.drop_one, List.map_tail]
      rw [e]; exact hS21
    have hfo : ∀ ad, ao21 = some ad → D.fails.tail ≠ [] → F ad.block ∧ ad.block ≠ g ∧ ∀ ad', bo = some ad' → ad.block ≠ ad'.block := fun ad e _ => by
      obtain ⟨a, ha, hb⟩ := hb21 ad e
      rw [hb]; exact h5 a ha (by rw [hxr]; simp)
    refine ⟨?_, ⟨⟨bo, cb, ao21, c21, by rw [← htl] at hB2; exact hB2, ownsRow_chg h2 hc2 (fun k hk e => ?_), Sl.chg hS2 hc2 (fun ad e hne hk => (hfo ad e (fun h => hne (by show List.map _ D.fails.tail = []; rw [h]; rfl))).2.1 hk), h4, hfo⟩, hD.own, fun k hk => by have := hD.lt k hk; have := hc2.size; omega, failD_ok hD.ok, hD.room, hD.rvb⟩, hc2⟩
    · unfold failB; rw [hxr]
    · obtain ⟨ad, e1, e2⟩ := slice_own hk
      exact (h4 ad e1).2 (e2.trans e)
theorem Dk.rebuild {F : Nat → Prop} {w0 w1 w2 : World} {g : Nat} {rv : Int} {D : Dsk} {bo fo : Option Addr} {cb cf : Nat} (own : F g) (lt : ∀ k, F k → k < w0.heap.size) (hs : w0.heap.size ≤ w1.heap.size)
    (hB : Bk w2 g [.int .i64 rv, .slice bo D.bs.length cb, .int .i64 (D.syn : Int), .slice fo D.fails.length cf]) (hO : Ow w1 0 5 (.slice bo D.bs.length cb) D.bs) (hZ : Zs w1 fo cf D.fails) (hc : Chg (fun k => k = g) w1 w2)
    (h4 : ∀ ad, bo = some ad → Grown F w0 w1 ad.block ∧ ad.block ≠ g) (h5 : ∀ ad, fo = some ad → D.fails ≠ [] → Grown F w0 w1 ad.block ∧ ad.block ≠ g ∧ ∀ ad', bo = some ad' → ad.block ≠ ad'.block) (ok : D.Ok) (room : max 0 rv = (D.room : Int)) (rvb : -9223372036854775808 ≤ rv ∧ rv ≤ 9223372036854775807) :
    Dk w2 (Grown F w0 w2) g rv D := by
  have hs2 := hc.size
  have up : ∀ k, Grown F w0 w1 k → Grown F w0 w2 k := fun k hk => hk.imp id fun h => ⟨h.1, by omega⟩
  refine ⟨⟨bo, cb, fo, cf, hB, ownsRow_chg hO hc (fun k hk e => ?_), Sl.chg hZ hc (fun ad e hne hk => (h5 ad e (fun h => hne (by rw [h]; rfl))).2.1 hk), fun ad e => ⟨up _ (h4 ad e).1, (h4 ad e).2⟩, fun ad e hne => ⟨up _ (h5 ad e hne).1, (h5 ad e hne).2⟩⟩, .inl own, Grown.lt lt (by omega), ok, room, rvb⟩
  obtain ⟨ad, e1, e2⟩ := slice_own hk
  exact (h4 ad e1).2 (e2.trans e)
theorem ow_lt {w : World} {base e n c : Nat} {bo : Option Addr} {xs : List UInt8} (h : Ow w base e (.slice bo n c) xs) : ∀ ad, bo = some ad → ad.block < w.heap.size := fun ad e => by
  have := (World.ownsRow.lt h ad.block (by rw [e]; rfl)).2
  exact this
theorem len_own {w : World} {base e : Nat} {v : Value} {xs : List UInt8} (h : Ow w base e v xs) : ∃ ao c, v = .slice ao xs.length c ∧ Bs w ao c xs ∧ ∀ ad, ao = some ad → base ≤ ad.block := ownsRow_form h
/-- What a disk's row of bytes is, taken up to n. -/
theorem ow_take {w : World} {base e c n : Nat} {bo : Option Addr} {xs : List UInt8} (h : Ow w base e (.slice bo xs.length c) xs) (hn : n ≤ xs.length) (h0 : bo = none → c = 0) : ∃ bo', (.slice (if c = 0 then bo else bo.map (·.add (0 * 1))) (n - 0) (c - 0) : Value) = .slice bo' (xs.take n).length c ∧ Ow w base e (.slice bo' (xs.take n).length c) (xs.take n) ∧ (∀ ad, bo' = some ad → ∃ a, bo = some a ∧ ad.block = a.block) := by
  have hl : (xs.take n).length = n := by rw [List.length_take]; omega
  rw [hl]
  rcases h.2 with ⟨h1, h2⟩ | ⟨g, cap, cur, hv, hb, hg, hnc, hcm, hcs, htake⟩
  · injection h1 with h3 h4 h5
    subst h3; subst h5
    have hn0 : n = 0 := by omega
    subst hn0
    refine ⟨none, by simp, ?_, fun ad e => by cases e⟩
    have e : xs.take 0 = [] := rfl
    rw [e]
    exact Ow.nil _ _ _
  · injection hv with h3 h4 h5
    subst h3; subst h5
    refine ⟨some ⟨g, 0, none⟩, ?_, ⟨by rw [List.length_map, hl, Nat.mul_one], .inr ⟨g, c, cur, by rw [hl], hb, hg, by omega, hcm, hcs, ?_⟩⟩, fun ad e => ⟨_, rfl, by obtain rfl := Option.some.inj e; rfl⟩⟩
    · simp [add_mk]
    · rw [hl, Nat.mul_one, List.map_take, ← htake, Nat.mul_one, List.take_take]
      congr 1
      omega
theorem Sync_ok (F : Nat → Prop) (g : Nat) (rv : Int) (D : Dsk) (w : World) (hD : Dk w F g rv D) : Ct Try.prog 57 #[.pointer (some ⟨g, 0, none⟩)] w (fun v w' => v = .int .i64 (synE D : Int) ∧ Dk w' F g rv (synD D) ∧ Chg F w w') := by
  refine Ct.enter [(0, .pointer (some ⟨g, 0, none⟩))] Try.func57 rfl rfl rfl rfl ?_
  refine C.seq ?_
  refine C.region ?_
  refine W.assign rfl rfl ?_
  refine W.nil ?_
  refine At.thenCode ?_
  refine C.seq ?_
  refine C.seq ?_
  refine C.region ?_
  refine W.move rfl rfl ?_
  refine W.call Try.call38 rfl (Disk.failing_ok F g rv D _ hD) rfl ?_
  rintro v4 w4 ⟨rfl, hD1, hc4⟩
  obtain ⟨bo, cb, fo, cf, h1, h2, h3, h4, h5⟩ := hD1.out
  have hcF : Chg F w w4 := hc4.mono fun k hk => by rw [hk]; exact hD.own
  refine W.nil ?_
  refine At.thenCode ?_
  first | refine C.condD rfl (fun c4 => ?_) (fun c4 => ?_) | refine C.cond rfl (fun c4 => ?_) (fun c4 => ?_)
  · refine C.seq ?_
    refine C.region ?_
    refine W.assign rfl rfl ?_
    refine W.nil ?_
    refine At.thenCode ?_
    refine C.ret ?_
    refine At.thenRet ?_
    refine At.ret1 Try.results57 rfl ?_
    first
    | (have hf : failB D = true := c4
       have e : synD D = failD D := by unfold synD; rw [if_pos hf]; rfl
       exact ⟨by unfold synE; rw [if_pos hf]; rfl, by rw [e]; exact hD1, hcF⟩)
    | (have hf : ¬ failB D = true := by simpa using c4
       have hsd : synD D = ⟨D.room, D.bs, D.bs.length, D.fails.tail⟩ := by unfold synD; rw [if_neg hf]
       refine ⟨by unfold synE; rw [if_neg hf]; rfl, ?_, hcF.trans (hc5.mono fun k hk => by rw [hk]; exact hD.own)⟩
       have hok := synD_ok hD.ok
       rw [hsd] at hok ⊢
       exact ⟨⟨bo, cb, fo, cf, hB5, ownsRow_chg h2 hc5 (fun k hk e => by obtain ⟨ad, e1, e2⟩ := slice_own hk; exact (h4 ad e1).2 (e2.trans e)), Sl.chg h3 hc5 (fun ad e hne hk => (h5 ad e (fun h => hne (by show List.map _ D.fails.tail = []; rw [show D.fails.tail = [] from h]; rfl))).2.1 hk), h4, h5⟩, hD.own, fun k hk => by have := hD1.lt k hk; have := hc5.size; omega, hok, hD.room, hD.rvb⟩)
  · refine C.skip ?_
    refine At.thenCode ?_
    refine C.seq ?_
    refine C.region ?_
    refine W.move rfl rfl ?_
    refine W.move rfl rfl ?_
    refine W.nilCheck rfl rfl ?_
    refine W.fieldB (off := 1) (size := 1) (t := 51) (Fld.of (by kernel_rfl)) rfl rfl rfl ?_
    refine W.loadB rfl Try.underlying51 rfl (by assumption) rfl rfl ?_
    refine W.lenS rfl Try.underlying51 rfl ?_
    refine W.nilCheck rfl rfl ?_
    refine W.fieldB (off := 2) (size := 1) (t := 3) (Fld.of (by kernel_rfl)) rfl rfl rfl ?_
    refine W.store1 rfl rfl rfl h1 (by simp) (by kernel_rfl) ?_
    intro w5 hc5 hB5
    have hB5 : Bk w5 g [.int .i64 rv, .slice bo D.bs.length cb, .int .i64 (D.bs.length : Int), .slice fo (failD D).fails.length cf] := hB5
    refine W.nil ?_
    refine At.thenCode ?_
    refine C.seq ?_
    refine C.region ?_
    refine W.assign rfl rfl ?_
    refine W.nil ?_
    refine At.thenCode ?_
    refine C.ret ?_
    refine At.ret1 Try.results57 rfl ?_
    first
    | (have hf : failB D = true := c4
       have e : synD D = failD D := by unfold synD; rw [if_pos hf]; rfl
       exact ⟨by unfold synE; rw [if_pos hf]; rfl, by rw [e]; exact hD1, hcF⟩)
    | (have hf : ¬ failB D = true := by simpa using c4
       have hsd : synD D = ⟨D.room, D.bs, D.bs.length, D.fails.tail⟩ := by unfold synD; rw [if_neg hf]
       refine ⟨by unfold synE; rw [if_neg hf]; rfl, ?_, hcF.trans (hc5.mono fun k hk => by rw [hk]; exact hD.own)⟩
       have hok := synD_ok hD.ok
       rw [hsd] at hok ⊢
       exact ⟨⟨bo, cb, fo, cf, hB5, ownsRow_chg h2 hc5 (fun k hk e => by obtain ⟨ad, e1, e2⟩ := slice_own hk; exact (h4 ad e1).2 (e2.trans e)), Sl.chg h3 hc5 (fun ad e hne hk => (h5 ad e (fun h => hne (by show List.map _ D.fails.tail = []; rw [show D.fails.tail = [] from h]; rfl))).2.1 hk), h4, h5⟩, hD.own, fun k hk => by have := hD1.lt k hk; have := hc5.size; omega, hok, hD.room, hD.rvb⟩)
theorem Bytes_ok (F : Nat → Prop) (g : Nat) (rv : Int) (D : Dsk) (w : World) (hD : Dk w F g rv D) : Ct Try.prog 22 #[.pointer (some ⟨g, 0, none⟩)] w (fun v w' => (∃ ao c, v = .slice ao D.bs.length c ∧ Bs w' ao c D.bs ∧ ∀ ad, ao = some ad → w.heap.size ≤ ad.block) ∧ Ext w w') := by
  obtain ⟨bo, cb, fo, cf, h1, h2, h3, h4, h5⟩ := hD.out
  have hsm := hD.ok.small
  obtain ⟨_, _, he2, hS2, _⟩ := ownsRow_form h2
  injection he2 with e1 e2 e3
  subst e1; subst e3
  refine Ct.enter [(0, .pointer (some ⟨g, 0, none⟩))] Try.func22 rfl rfl rfl rfl ?_
  refine C.seq ?_
  refine C.region ?_
  refine W.assign rfl rfl ?_
  refine W.nil ?_
  refine At.thenCode ?_
  refine C.seq ?_
  refine C.region ?_
  refine W.move rfl rfl ?_
  refine W.nilCheck rfl rfl ?_
  refine W.fieldB (off := 1) (size := 1) (t := 51) (Fld.of (by kernel_rfl)) rfl rfl rfl ?_
  refine W.loadB rfl Try.underlying51 rfl (by assumption) rfl rfl ?_
  refine W.call Try.call37 rfl (Disk.cloneB_ok _ _ _ _ hS2 (by omega)) rfl ?_
  rintro v7 w7 ⟨ho7, hX7⟩
  refine W.assign rfl rfl ?_
  refine W.nil ?_
  refine At.thenCode ?_
  refine C.ret ?_
  refine At.ret1 Try.results22 rfl ?_
  obtain ⟨ao7, c7, rfl, hS7, hb7⟩ := ownsRow_form ho7
  exact ⟨⟨ao7, c7, rfl, hS7, hb7⟩, hX7⟩
theorem Fail_ok (F : Nat → Prop) (g : Nat) (rv : Int) (D : Dsk) (lo : Option Addr) (lc : Nat) (l : List Int) (w : World) (hD : Dk w F g rv D) (hl : Zs w lo lc l) (hll : l.length ≤ 1000000000) : Ct Try.prog 25 #[.pointer (some ⟨g, 0, none⟩), .slice lo l.length lc] w (fun v w' => Dk w' (Grown F w w') g rv (setFails D l) ∧ Chg F w w') := by
  obtain ⟨bo, cb, fo, cf, h1, h2, h3, h4, h5⟩ := hD.out
  have hlt := hD.lt
  refine Ct.enter [(0, .pointer (some ⟨g, 0, none⟩)), (1, .slice lo l.length lc)] Try.func25 rfl rfl rfl rfl ?_
  refine C.region ?_
  refine W.move rfl rfl ?_
  refine W.move rfl rfl ?_
  refine W.call Try.call40 rfl (Disk.cloneZ_ok _ _ _ _ hl (by omega)) rfl ?_
  rintro v6 w6 ⟨ho6, hX6⟩
  have hlt6 := fun k hk => (World.ownsRow.lt ho6 k hk).2
  obtain ⟨ao6, c6, rfl, hS6, hb6⟩ := ownsRow_form ho6
  have h1 := h1.ext hX6
  have hx6 := hX6.size
  refine W.nilCheck rfl rfl ?_
  refine W.fieldB (off := 3) (size := 1) (t := 22) (Fld.of (by kernel_rfl)) rfl rfl rfl ?_
  refine W.store1 rfl rfl rfl h1 (by simp) (by kernel_rfl) ?_
  intro w7 hc7 hB7
  refine W.nil ?_
  refine At.end0 Try.results25 ?_
  refine ⟨?_, (hX6.mono fun _ c => c.elim).trans (hc7.mono fun k hk => by rw [hk]; exact hD.own)⟩
  exact Dk.rebuild (D := setFails D l) hD.own hlt hx6 hB7 (ownsRow_ext h2 hX6) hS6 hc7 (fun ad e => ⟨.inl (h4 ad e).1, (h4 ad e).2⟩) (fun ad e _ => by
    have hb := hb6 ad e
    have hl6 := hlt6 ad.block (by rw [e]; rfl)
    exact ⟨.inr ⟨hb, hl6⟩, fun c => by have := hlt g hD.own; omega, fun ad' e' c => by have := hlt _ (h4 ad' e').1; omega⟩) (setFails_ok hD.ok (by omega)) hD.room hD.rvb
end Go.Proofs.Ythiijdbiikljpaa.Disk
