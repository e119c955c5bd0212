/- Package gen and the reference's functions of chapter 26. -/
import Derived.Test.YtenjokoialgjbaaWords
import Derived.Test.YtenjokoialgjbaaKe
import Derived.Test.YtenjokoialgjbaaKr
namespace Go.Proofs.Ytenjokoialgjbaa.Gen
open Go Go.RowKit Go.Proofs.Ytenjokoialgjbaa.KW Go.Proofs.Ytenjokoialgjbaa.Words
set_option linter.unusedVariables false
set_option linter.unusedSimpArgs false
set_option maxRecDepth 100000

def nx (s : Nat) : Nat := (s * 1664525 + 1013904223) % 4294967296
theorem nx_lt (s : Nat) : nx s < 4294967296 := Nat.mod_lt _ (by decide)
def draw (s : Nat) (n : Int) : Int := if n < 1 then 0 else ((nx s / 256 : Nat) : Int) % n
theorem draw_lt {s : Nat} {n : Int} (h : 1 ≤ n) : 0 ≤ draw s n ∧ draw s n < n := by
  unfold draw; rw [if_neg (by omega)]
  exact ⟨Int.emod_nonneg _ (by omega), Int.emod_lt_of_pos _ (by omega)⟩
theorem draw_range (s : Nat) (n : Int) : 0 ≤ draw s n ∧ draw s n ≤ 9223372036854775807 := by
  unfold draw
  have := nx_lt s
  split
  · omega
  · refine ⟨Int.emod_nonneg _ (by omega), ?_⟩
    obtain ⟨m, rfl⟩ : ∃ m : Nat, n = (m : Int) := ⟨n.toNat, by omega⟩
    have h3 : ((nx s / 256 : Nat) : Int) % (m : Int) ≤ ((nx s / 256 : Nat) : Int) := by exact_mod_cast Nat.mod_le _ _
    omega
def st0 (seed : Int) : Nat := (seed % 4294967296).toNat
theorem st0_lt (seed : Int) : st0 seed < 4294967296 := by unfold st0; omega
def evC (kind a b j seed pay : Int) : List Value :=
  [.int .i64 kind, .int .i64 a, .int .i64 b, .int .i64 j, .int .i64 0, .int .i64 0, .int .u64 seed, .int .i64 0, .int .i64 0, .int .i64 0, .int .u8 pay] ++ List.replicate 31 (.int .u8 0)
theorem evC_length (kind a b j seed pay : Int) : (evC kind a b j seed pay).length = 42 := rfl
def evK : List IntKind := [.i64, .i64, .i64, .i64, .i64, .i64, .u64, .i64, .i64, .i64] ++ List.replicate 32 .u8
theorem evC_typed (kind a b j seed pay : Int) : Typed evK (evC kind a b j seed pay) := by
  simp [evK, evC, Typed, List.replicate]
def evL (s : Nat) (u : Int) : List Value :=
  if draw s 8 = 3 then evC 2 (draw (nx s) u) (draw (nx (nx s)) u) 0 0 0
  else if draw s 8 = 4 then evC 3 (draw (nx s) u) 0 0 0 (draw (nx (nx s)) 256)
  else if draw s 8 = 5 then evC 4 (draw (nx s) u) 0 0 0 0
  else if draw s 8 = 6 then evC 7 (draw (nx s) u) 0 (draw (nx (nx s)) 3) 0 0
  else if draw s 8 = 7 then evC 10 (draw (nx s) u) 0 0 0 0
  else evC 8 0 0 0 0 0
def evS (s : Nat) : Nat :=
  if draw s 8 = 3 then nx (nx (nx s))
  else if draw s 8 = 4 then nx (nx (nx s))
  else if draw s 8 = 5 then nx (nx s)
  else if draw s 8 = 6 then nx (nx (nx s))
  else if draw s 8 = 7 then nx (nx s)
  else nx s
theorem ev_cells (s : Nat) (u : Int) : ∃ a b c d e f, evL s u = evC a b c d e f := by
  unfold evL
  split
  · exact ⟨_, _, _, _, _, _, rfl⟩
  split
  · exact ⟨_, _, _, _, _, _, rfl⟩
  split
  · exact ⟨_, _, _, _, _, _, rfl⟩
  split
  · exact ⟨_, _, _, _, _, _, rfl⟩
  split
  · exact ⟨_, _, _, _, _, _, rfl⟩
  · exact ⟨_, _, _, _, _, _, rfl⟩
theorem ev_typed (s : Nat) (u : Int) : Typed evK (evL s u) := by
  obtain ⟨a, b, c, d, e, f, h⟩ := ev_cells s u
  rw [h]; exact evC_typed _ _ _ _ _ _
theorem ev_length (s : Nat) (u : Int) : (evL s u).length = 42 := (ev_typed s u).length
theorem ev_state (s : Nat) : evS s < 4294967296 := by
  unfold evS
  split
  · exact nx_lt _
  split
  · exact nx_lt _
  split
  · exact nx_lt _
  split
  · exact nx_lt _
  split
  · exact nx_lt _
  · exact nx_lt _
def stA (s : Nat) : Nat → Nat
  | 0 => s
  | i + 1 => evS (stA s i)
theorem stA_lt {s : Nat} (hs : s < 4294967296) : ∀ i, stA s i < 4294967296
  | 0 => by unfold stA; exact hs
  | i + 1 => by unfold stA; exact ev_state _
def usr : Nat → List Value
  | 0 => []
  | i + 1 => usr i ++ evC 1 0 0 0 (1000 + i) 0
def evA (s : Nat) (u : Int) (U : Nat) : Nat → List Value
  | 0 => usr U
  | i + 1 => evA s u U i ++ evL (stA s i) u
theorem usr_length : ∀ i, (usr i).length = 42 * i
  | 0 => rfl
  | i + 1 => by rw [usr, List.length_append, usr_length i, evC_length]; omega
theorem evA_length (s : Nat) (u : Int) (U : Nat) : ∀ i, (evA s u U i).length = 42 * (U + i)
  | 0 => usr_length U
  | i + 1 => by rw [evA, List.length_append, evA_length s u U i, ev_length]; omega
def cap (n m : Int) : Nat := (min (max 0 n) m).toNat
/-- All events, and how many. -/
def eventsC (seed users count : Int) : List Value := evA (st0 seed) (cap users 20) (cap users 20) (cap count 100)
def eventsN (users count : Int) : Nat := cap users 20 + cap count 100

theorem EE : Elem Try.prog 70 42 112 (.agg [(.int .i64 0), (.int .i64 0), (.int .i64 0), (.int .i64 0), (.int .i64 0), (.int .i64 0), (.int .u64 0), (.int .i64 0), (.int .i64 0), (.int .i64 0), (.int .u8 0), (.int .u8 0), (.int .u8 0), (.int .u8 0), (.int .u8 0), (.int .u8 0), (.int .u8 0), (.int .u8 0), (.int .u8 0), (.int .u8 0), (.int .u8 0), (.int .u8 0), (.int .u8 0), (.int .u8 0), (.int .u8 0), (.int .u8 0), (.int .u8 0), (.int .u8 0), (.int .u8 0), (.int .u8 0), (.int .u8 0), (.int .u8 0), (.int .u8 0), (.int .u8 0), (.int .u8 0), (.int .u8 0), (.int .u8 0), (.int .u8 0), (.int .u8 0), (.int .u8 0), (.int .u8 0), (.int .u8 0)].toArray) := Elem.of (by kernel_rfl) rfl rfl
abbrev zsE : List Value := List.replicate 6 (.int .i64 0) ++ [.int .u64 0] ++ List.replicate 3 (.int .i64 0) ++ List.replicate 32 (.int .u8 0)

theorem New_ok (seed : Int) (w : World) : Ct Try.prog 14 #[.int .i64 seed] w (fun v w' => ∃ g, v = .pointer (some ⟨g, 0, none⟩) ∧ w.heap.size ≤ g ∧ Ext w w' ∧ Bk w' g [.int .i64 ((st0 seed : Nat) : Int)]) := by
  refine Ct.enter [(0, .int .i64 seed)] Try.func14 rfl rfl rfl rfl ?_
  refine C.seq ?_
  refine C.region ?_
  refine W.assign rfl rfl ?_
  refine W.nil ?_
  refine At.thenCode ?_
  refine C.seq ?_
  refine C.region ?_
  refine W.move rfl rfl ?_
  refine W.maskI 32 rfl rfl rfl (by omega) rfl ?_
  refine W.eqv (v' := .int .i64 ((st0 seed : Nat) : Int)) (iV (by unfold st0; omega)) ?_
  refine W.buildS [(0, 1)] [.int .i64 ((st0 seed : Nat) : Int)] [(.int .i64 0)] Try.underlying63 (by kernel_rfl) (by kernel_rfl) rfl rfl rfl ?_
  refine W.box [.int .i64 ((st0 seed : Nat) : Int)] rfl rfl rfl ?_
  intro g6 w6 hg6 hX6 hB6
  refine W.assign rfl rfl ?_
  refine W.nil ?_
  refine At.thenCode ?_
  refine C.ret ?_
  refine At.ret1 Try.results14 rfl ?_
  exact ⟨g6, rfl, by omega, hX6, hB6⟩
theorem Next_ok (g s : Nat) (n : Int) (w : World) (hs : s < 4294967296) (hB : Bk w g [.int .i64 (s : Int)]) : Ct Try.prog 16 #[.pointer (some ⟨g, 0, none⟩), .int .i64 n] w (fun v w' => v = .int .i64 (draw s n) ∧ Chg (fun k => k = g) w w' ∧ Bk w' g [.int .i64 ((nx s : Nat) : Int)]) := by
  refine Ct.enter [(0, .pointer (some ⟨g, 0, none⟩)), (1, .int .i64 n)] Try.func16 rfl rfl rfl rfl ?_
  refine C.seq ?_
  refine C.region ?_
  refine W.assign rfl rfl ?_
  refine W.nil ?_
  refine At.thenCode ?_
  refine C.seq ?_
  refine C.region ?_
  refine W.move rfl rfl ?_
  refine W.move rfl rfl ?_
  refine W.nilCheck rfl rfl ?_
  refine W.fieldB (off := 0) (size := 1) (t := 3) (Fld.of (by kernel_rfl)) rfl rfl rfl ?_
  refine W.loadB rfl Try.underlying3 rfl (by assumption) rfl rfl ?_
  first | refine W.mulI rfl rfl (by omega) rfl ?_ | refine W.mulW rfl rfl rfl ?_
  first | refine W.addI rfl rfl (by omega) rfl ?_ | refine W.addW rfl rfl rfl ?_
  refine W.maskI 32 rfl rfl rfl (by omega) rfl ?_
  refine W.eqv (v' := .int .i64 ((nx s : Nat) : Int)) (iV (by unfold nx; omega)) ?_
  refine W.nilCheck rfl rfl ?_
  refine W.fieldB (off := 0) (size := 1) (t := 3) (Fld.of (by kernel_rfl)) rfl rfl rfl ?_
  refine W.store1 rfl rfl rfl hB (by simp) (by kernel_rfl) ?_
  intro w2 hc2 hB2
  have hB2 : Bk w2 g [.int .i64 ((nx s : Nat) : Int)] := hB2
  have hnl := nx_lt s
  refine W.nil ?_
  refine At.thenCode ?_
  refine C.seq ?_
  refine C.seq ?_
  refine C.region ?_
  refine W.move rfl rfl ?_
  refine W.lssI rfl rfl rfl ?_
  refine W.nil ?_
  refine At.thenCode ?_
  first | refine C.condD rfl (fun c16 => ?_) (fun c16 => ?_) | refine C.cond rfl (fun c16 => ?_) (fun c16 => ?_)
  · refine C.seq ?_
    refine C.region ?_
    refine W.assign rfl rfl ?_
    refine W.nil ?_
    refine At.thenCode ?_
    refine C.ret ?_
    refine At.thenRet ?_
    refine At.ret1 Try.results16 rfl ?_
    first | exact ⟨by unfold draw; rw [if_pos (by omega)], hc2, hB2⟩ | exact ⟨by unfold draw; rw [if_neg (by omega)], hc2, hB2⟩
  · refine C.skip ?_
    refine At.thenCode ?_
    refine C.seq ?_
    refine C.region ?_
    refine W.move rfl rfl ?_
    refine W.nilCheck rfl rfl ?_
    refine W.fieldB (off := 0) (size := 1) (t := 3) (Fld.of (by kernel_rfl)) rfl rfl rfl ?_
    refine W.loadB rfl Try.underlying3 rfl (by assumption) rfl rfl ?_
    refine W.shrI (s := 8) rfl rfl (by omega) rfl ?_
    refine W.eqv (v' := .int .i64 ((nx s / 256 : Nat) : Int)) (iV (by omega)) ?_
    refine W.move rfl rfl ?_
    first | refine W.remI rfl rfl (by omega) rfl ?_ | refine W.remW rfl rfl (by omega) rfl ?_
    refine W.assign rfl rfl ?_
    refine W.nil ?_
    refine At.thenCode ?_
    refine C.ret ?_
    refine At.ret1 Try.results16 rfl ?_
    first | exact ⟨by unfold draw; rw [if_pos (by omega)], hc2, hB2⟩ | exact ⟨by unfold draw; rw [if_neg (by omega)], hc2, hB2⟩
theorem RNew_ok (seed : Int) (w : World) : Ct Try.prog 15 #[.int .i64 seed] w (fun v w' => ∃ g, v = .pointer (some ⟨g, 0, none⟩) ∧ w.heap.size ≤ g ∧ Ext w w' ∧ Bk w' g [.int .i64 ((st0 seed : Nat) : Int)]) := by
  refine Ct.enter [(0, .int .i64 seed)] Try.func15 rfl rfl rfl rfl ?_
  refine C.seq ?_
  refine C.region ?_
  refine W.assign rfl rfl ?_
  refine W.nil ?_
  refine At.thenCode ?_
  refine C.seq ?_
  refine C.region ?_
  refine W.move rfl rfl ?_
  refine W.maskI 32 rfl rfl rfl (by omega) rfl ?_
  refine W.eqv (v' := .int .i64 ((st0 seed : Nat) : Int)) (iV (by unfold st0; omega)) ?_
  refine W.buildS [(0, 1)] [.int .i64 ((st0 seed : Nat) : Int)] [(.int .i64 0)] Try.underlying65 (by kernel_rfl) (by kernel_rfl) rfl rfl rfl ?_
  refine W.box [.int .i64 ((st0 seed : Nat) : Int)] rfl rfl rfl ?_
  intro g6 w6 hg6 hX6 hB6
  refine W.assign rfl rfl ?_
  refine W.nil ?_
  refine At.thenCode ?_
  refine C.ret ?_
  refine At.ret1 Try.results15 rfl ?_
  exact ⟨g6, rfl, by omega, hX6, hB6⟩
theorem RNext_ok (g s : Nat) (n : Int) (w : World) (hs : s < 4294967296) (hB : Bk w g [.int .i64 (s : Int)]) : Ct Try.prog 17 #[.pointer (some ⟨g, 0, none⟩), .int .i64 n] w (fun v w' => v = .int .i64 (draw s n) ∧ Chg (fun k => k = g) w w' ∧ Bk w' g [.int .i64 ((nx s : Nat) : Int)]) := by
  refine Ct.enter [(0, .pointer (some ⟨g, 0, none⟩)), (1, .int .i64 n)] Try.func17 rfl rfl rfl rfl ?_
  refine C.seq ?_
  refine C.region ?_
  refine W.assign rfl rfl ?_
  refine W.nil ?_
  refine At.thenCode ?_
  refine C.seq ?_
  refine C.region ?_
  refine W.move rfl rfl ?_
  refine W.move rfl rfl ?_
  refine W.nilCheck rfl rfl ?_
  refine W.fieldB (off := 0) (size := 1) (t := 3) (Fld.of (by kernel_rfl)) rfl rfl rfl ?_
  refine W.loadB rfl Try.underlying3 rfl (by assumption) rfl rfl ?_
  first | refine W.mulI rfl rfl (by omega) rfl ?_ | refine W.mulW rfl rfl rfl ?_
  first | refine W.addI rfl rfl (by omega) rfl ?_ | refine W.addW rfl rfl rfl ?_
  refine W.maskI 32 rfl rfl rfl (by omega) rfl ?_
  refine W.eqv (v' := .int .i64 ((nx s : Nat) : Int)) (iV (by unfold nx; omega)) ?_
  refine W.nilCheck rfl rfl ?_
  refine W.fieldB (off := 0) (size := 1) (t := 3) (Fld.of (by kernel_rfl)) rfl rfl rfl ?_
  refine W.store1 rfl rfl rfl hB (by simp) (by kernel_rfl) ?_
  intro w2 hc2 hB2
  have hB2 : Bk w2 g [.int .i64 ((nx s : Nat) : Int)] := hB2
  have hnl := nx_lt s
  refine W.nil ?_
  refine At.thenCode ?_
  refine C.seq ?_
  refine C.seq ?_
  refine C.region ?_
  refine W.move rfl rfl ?_
  refine W.lssI rfl rfl rfl ?_
  refine W.nil ?_
  refine At.thenCode ?_
  first | refine C.condD rfl (fun c16 => ?_) (fun c16 => ?_) | refine C.cond rfl (fun c16 => ?_) (fun c16 => ?_)
  · refine C.seq ?_
    refine C.region ?_
    refine W.assign rfl rfl ?_
    refine W.nil ?_
    refine At.thenCode ?_
    refine C.ret ?_
    refine At.thenRet ?_
    refine At.ret1 Try.results17 rfl ?_
    first | exact ⟨by unfold draw; rw [if_pos (by omega)], hc2, hB2⟩ | exact ⟨by unfold draw; rw [if_neg (by omega)], hc2, hB2⟩
  · refine C.skip ?_
    refine At.thenCode ?_
    refine C.seq ?_
    refine C.region ?_
    refine W.move rfl rfl ?_
    refine W.nilCheck rfl rfl ?_
    refine W.fieldB (off := 0) (size := 1) (t := 3) (Fld.of (by kernel_rfl)) rfl rfl rfl ?_
    refine W.loadB rfl Try.underlying3 rfl (by assumption) rfl rfl ?_
    refine W.shrI (s := 8) rfl rfl (by omega) rfl ?_
    refine W.eqv (v' := .int .i64 ((nx s / 256 : Nat) : Int)) (iV (by omega)) ?_
    refine W.move rfl rfl ?_
    first | refine W.remI rfl rfl (by omega) rfl ?_ | refine W.remW rfl rfl (by omega) rfl ?_
    refine W.assign rfl rfl ?_
    refine W.nil ?_
    refine At.thenCode ?_
    refine C.ret ?_
    refine At.ret1 Try.results17 rfl ?_
    first | exact ⟨by unfold draw; rw [if_pos (by omega)], hc2, hB2⟩ | exact ⟨by unfold draw; rw [if_neg (by omega)], hc2, hB2⟩
theorem event_ok (g s : Nat) (u : Int) (w : World) (hs : s < 4294967296) (hB : Bk w g [.int .i64 (s : Int)]) : Ct Try.prog 32 #[.pointer (some ⟨g, 0, none⟩), .int .i64 u] w (fun v w' => v = .agg (evL s u).toArray ∧ Chg (fun k => k = g) w w' ∧ Bk w' g [.int .i64 ((evS s : Nat) : Int)]) := by
  refine Ct.enter [(0, .pointer (some ⟨g, 0, none⟩)), (1, .int .i64 u)] Try.func32 rfl rfl rfl rfl ?_
  have hlg := hB.lt
  have hsz : ∀ (w' : World) (cells : List Value) (g4 st : Nat), cells = evL s u → st = evS s → w.heap.size ≤ g4 → Chg (fun k => k = g) w w' → Bk w' g [.int .i64 (st : Int)] → ∀ wz, Chg (fun k => k = g4) w' wz → Bk wz g4 cells → Cells wz ⟨g4, 0, none⟩ (evL s u) ∧ Chg (fun k => k = g) w wz ∧ Bk wz g [.int .i64 ((evS s : Nat) : Int)] := by
    intro w' cells g4 st h1 h2 h3 h4 h5 wz h6 h7
    subst h1; subst h2
    refine ⟨by have := h7.cells (o := 0); rwa [List.drop_zero] at this, h4.news h6 (fun k hk => Or.inr (by omega)), h5.chg h6 (by omega)⟩
  refine C.seq ?_
  refine C.region ?_
  refine W.alloc (z := .agg [(.int .i64 0), (.int .i64 0), (.int .i64 0), (.int .i64 0), (.int .i64 0), (.int .i64 0), (.int .u64 0), (.int .i64 0), (.int .i64 0), (.int .i64 0), (.int .u8 0), (.int .u8 0), (.int .u8 0), (.int .u8 0), (.int .u8 0), (.int .u8 0), (.int .u8 0), (.int .u8 0), (.int .u8 0), (.int .u8 0), (.int .u8 0), (.int .u8 0), (.int .u8 0), (.int .u8 0), (.int .u8 0), (.int .u8 0), (.int .u8 0), (.int .u8 0), (.int .u8 0), (.int .u8 0), (.int .u8 0), (.int .u8 0), (.int .u8 0), (.int .u8 0), (.int .u8 0), (.int .u8 0), (.int .u8 0), (.int .u8 0), (.int .u8 0), (.int .u8 0), (.int .u8 0), (.int .u8 0)].toArray) [(.int .i64 0), (.int .i64 0), (.int .i64 0), (.int .i64 0), (.int .i64 0), (.int .i64 0), (.int .u64 0), (.int .i64 0), (.int .i64 0), (.int .i64 0), (.int .u8 0), (.int .u8 0), (.int .u8 0), (.int .u8 0), (.int .u8 0), (.int .u8 0), (.int .u8 0), (.int .u8 0), (.int .u8 0), (.int .u8 0), (.int .u8 0), (.int .u8 0), (.int .u8 0), (.int .u8 0), (.int .u8 0), (.int .u8 0), (.int .u8 0), (.int .u8 0), (.int .u8 0), (.int .u8 0), (.int .u8 0), (.int .u8 0), (.int .u8 0), (.int .u8 0), (.int .u8 0), (.int .u8 0), (.int .u8 0), (.int .u8 0), (.int .u8 0), (.int .u8 0), (.int .u8 0), (.int .u8 0)] (by kernel_rfl) rfl rfl ?_
  intro g4 w4 hg4 hX4 hB4
  have hB := hB.ext hX4
  refine W.nil ?_
  refine At.thenCode ?_
  refine C.seq ?_
  refine C.seq ?_
  refine C.region ?_
  refine W.move rfl rfl ?_
  refine W.call Try.call16 rfl (Gen.Next_ok g s 8 _ hs hB) rfl ?_
  rintro v7 w7 ⟨rfl, hc7, hB7⟩
  have hc7' : Chg (fun k => k = g) w w7 := (hX4.mono fun _ c => c.elim).trans hc7
  have hB4 := hB4.chg hc7 (by omega)
  have hg47 : w.heap.size ≤ g4 := by omega
  have hne : ¬ g4 = g := by omega
  refine W.nil ?_
  refine At.thenCode ?_
  refine C.block ?_
  refine C.seq ?_
  refine C.region ?_
  refine W.eqlI rfl rfl rfl ?_
  refine W.assign rfl rfl ?_
  refine W.nil ?_
  refine At.thenCode ?_
  first | refine C.condD rfl (fun c8 => ?_) (fun c8 => ?_) | refine C.cond rfl (fun c8 => ?_) (fun c8 => ?_)
  · refine C.seq ?_
    refine C.region ?_
    refine W.move rfl rfl ?_
    refine W.move rfl rfl ?_
    refine W.call Try.call16 rfl (Gen.Next_ok g _ u _ (nx_lt _) hB7) rfl ?_
    rintro v12 w12 ⟨rfl, hc12, hB12⟩
    refine W.move rfl rfl ?_
    refine W.move rfl rfl ?_
    refine W.call Try.call16 rfl (Gen.Next_ok g _ u _ (nx_lt _) hB12) rfl ?_
    rintro v15 w15 ⟨rfl, hc15, hB15⟩
    refine W.buildS [(0, 1), (1, 1), (2, 1), (3, 1), (4, 1), (5, 1), (6, 1), (7, 3), (10, 32)] (evC 2 (draw (nx s) u) (draw (nx (nx s)) u) 0 0 0) [(.int .i64 0), (.int .i64 0), (.int .i64 0), (.int .i64 0), (.int .i64 0), (.int .i64 0), (.int .u64 0), (.int .i64 0), (.int .i64 0), (.int .i64 0), (.int .u8 0), (.int .u8 0), (.int .u8 0), (.int .u8 0), (.int .u8 0), (.int .u8 0), (.int .u8 0), (.int .u8 0), (.int .u8 0), (.int .u8 0), (.int .u8 0), (.int .u8 0), (.int .u8 0), (.int .u8 0), (.int .u8 0), (.int .u8 0), (.int .u8 0), (.int .u8 0), (.int .u8 0), (.int .u8 0), (.int .u8 0), (.int .u8 0), (.int .u8 0), (.int .u8 0), (.int .u8 0), (.int .u8 0), (.int .u8 0), (.int .u8 0), (.int .u8 0), (.int .u8 0), (.int .u8 0), (.int .u8 0)] Try.underlying70 (by kernel_rfl) (by kernel_rfl) rfl rfl rfl ?_
    refine W.storeA (evC 2 (draw (nx s) u) (draw (nx (nx s)) u) 0 0 0) rfl rfl ((hB4.chg hc12 hne).chg hc15 hne) rfl (by kernel_rfl) (evC_typed _ _ _ _ _ _).one ?_
    intro wz hcz hBz
    obtain ⟨r1, r2, r3⟩ := hsz _ _ _ _ (by unfold evL; rw [if_pos (by assumption)]) (by unfold evS; rw [if_pos (by assumption)]) hg47 ((hc7'.trans hc12).trans hc15) hB15 wz hcz hBz
    refine W.nil ?_
    refine At.thenCode ?_
    refine C.ret ?_
    refine At.blockRet ?_
    refine At.thenRet ?_
    -- RESULT IN A CELL
    exact At.retC Try.results32 rfl r1 Try.underlying70 rfl (by rw [ev_length]; kernel_rfl) ⟨rfl, r2, r3⟩
  · refine C.seq ?_
    refine C.region ?_
    refine W.eqlI rfl rfl rfl ?_
    refine W.assign rfl rfl ?_
    refine W.nil ?_
    refine At.thenCode ?_
    first | refine C.condD rfl (fun c17 => ?_) (fun c17 => ?_) | refine C.cond rfl (fun c17 => ?_) (fun c17 => ?_)
    · refine C.seq ?_
      refine C.region ?_
      refine W.move rfl rfl ?_
      refine W.move rfl rfl ?_
      refine W.call Try.call16 rfl (Gen.Next_ok g _ u _ (nx_lt _) hB7) rfl ?_
      rintro v21 w21 ⟨rfl, hc21, hB21⟩
      refine W.buildS [(0, 1), (1, 1), (2, 1), (3, 1), (4, 1), (5, 1), (6, 1), (7, 3), (10, 32)] (evC 3 (draw (nx s) u) 0 0 0 0) [(.int .i64 0), (.int .i64 0), (.int .i64 0), (.int .i64 0), (.int .i64 0), (.int .i64 0), (.int .u64 0), (.int .i64 0), (.int .i64 0), (.int .i64 0), (.int .u8 0), (.int .u8 0), (.int .u8 0), (.int .u8 0), (.int .u8 0), (.int .u8 0), (.int .u8 0), (.int .u8 0), (.int .u8 0), (.int .u8 0), (.int .u8 0), (.int .u8 0), (.int .u8 0), (.int .u8 0), (.int .u8 0), (.int .u8 0), (.int .u8 0), (.int .u8 0), (.int .u8 0), (.int .u8 0), (.int .u8 0), (.int .u8 0), (.int .u8 0), (.int .u8 0), (.int .u8 0), (.int .u8 0), (.int .u8 0), (.int .u8 0), (.int .u8 0), (.int .u8 0), (.int .u8 0), (.int .u8 0)] Try.underlying70 (by kernel_rfl) (by kernel_rfl) rfl rfl rfl ?_
      refine W.alloc (z := .agg [(.int .i64 0), (.int .i64 0), (.int .i64 0), (.int .i64 0), (.int .i64 0), (.int .i64 0), (.int .u64 0), (.int .i64 0), (.int .i64 0), (.int .i64 0), (.int .u8 0), (.int .u8 0), (.int .u8 0), (.int .u8 0), (.int .u8 0), (.int .u8 0), (.int .u8 0), (.int .u8 0), (.int .u8 0), (.int .u8 0), (.int .u8 0), (.int .u8 0), (.int .u8 0), (.int .u8 0), (.int .u8 0), (.int .u8 0), (.int .u8 0), (.int .u8 0), (.int .u8 0), (.int .u8 0), (.int .u8 0), (.int .u8 0), (.int .u8 0), (.int .u8 0), (.int .u8 0), (.int .u8 0), (.int .u8 0), (.int .u8 0), (.int .u8 0), (.int .u8 0), (.int .u8 0), (.int .u8 0)].toArray) [(.int .i64 0), (.int .i64 0), (.int .i64 0), (.int .i64 0), (.int .i64 0), (.int .i64 0), (.int .u64 0), (.int .i64 0), (.int .i64 0), (.int .i64 0), (.int .u8 0), (.int .u8 0), (.int .u8 0), (.int .u8 0), (.int .u8 0), (.int .u8 0), (.int .u8 0), (.int .u8 0), (.int .u8 0), (.int .u8 0), (.int .u8 0), (.int .u8 0), (.int .u8 0), (.int .u8 0), (.int .u8 0), (.int .u8 0), (.int .u8 0), (.int .u8 0), (.int .u8 0), (.int .u8 0), (.int .u8 0), (.int .u8 0), (.int .u8 0), (.int .u8 0), (.int .u8 0), (.int .u8 0), (.int .u8 0), (.int .u8 0), (.int .u8 0), (.int .u8 0), (.int .u8 0), (.int .u8 0)] (by kernel_rfl) rfl rfl ?_
      intro g5 w5 hg5 hX5 hB5
      refine W.storeA (evC 3 (draw (nx s) u) 0 0 0 0) rfl rfl hB5 rfl (by kernel_rfl) (evC_typed _ _ _ _ _ _).one ?_
      intro w6 hc6 hB6
      have hs21 := hc21.size
      have hs7 := hc7.size
      have hl4 := hB4.lt
      have hlg7 := hB7.lt
      have hX6 : Ext w21 w6 := hX5.news hc6 (fun k hk => Or.inr (by omega))
      have hB21 := hB21.ext hX6
      refine W.nil ?_
      refine At.thenCode ?_
      refine C.seq ?_
      refine C.region ?_
      refine W.move rfl rfl ?_
      refine W.call Try.call16 rfl (Gen.Next_ok g _ 256 _ (nx_lt _) hB21) rfl ?_
      rintro v24 w24 ⟨rfl, hc24, hB24⟩
      have hB6 := hB6.chg hc24 (by omega)
      have hdl := draw_lt (s := nx (nx s)) (n := 256) (by decide)
      refine W.convIN (M := 256) rfl Try.underlying3 Try.underlying5 rfl rfl hdl rfl ?_
      refine W.eqv (v' := .int .u8 (draw (nx (nx s)) 256)) (by rw [Int.toNat_of_nonneg hdl.1]) ?_
      refine W.fieldB (off := 10) (size := 32) (t := 68) (Fld.of (by kernel_rfl)) rfl rfl rfl ?_
      refine W.indexA (j := 0) X8 Try.underlying68 rfl rfl rfl (by decide) rfl ?_
      refine W.store1 rfl rfl rfl hB6 (by rw [evC_length]; decide) (by kernel_rfl) ?_
      intro w25 hc25 hB25
      have hB25 : Bk w25 g5 (evC 3 (draw (nx s) u) 0 0 0 (draw (nx (nx s)) 256)) := hB25
      refine W.nil ?_
      refine At.thenCode ?_
      refine C.seq ?_
      refine C.region ?_
      refine W.loadA rfl (hB25.cells (o := 0)) Try.underlying70 rfl (by kernel_rfl) rfl ?_
      have hs6 := hX6.size
      have hcA : Chg (fun k => k = g) w7 w25 := Chg.news (hc21.ext hX6) (hc24.mono fun k hk => hk) (fun k hk => Or.inl hk) |>.news hc25 (fun k hk => Or.inr (by omega))
      have hB4 := ((hB4.chg hc21 hne).ext hX6).chg hc24 hne |>.chg hc25 (by omega)
      refine W.storeA (evC 3 (draw (nx s) u) 0 0 0 (draw (nx (nx s)) 256)) rfl rfl hB4 rfl (by kernel_rfl) (evC_typed _ _ _ _ _ _).one ?_
      intro wz hcz hBz
      obtain ⟨r1, r2, r3⟩ := hsz _ _ _ _ (by unfold evL; rw [if_neg c8, if_pos c17]) (by unfold evS; rw [if_neg c8, if_pos c17]) hg47 (hc7'.trans hcA) (hB24.chg hc25 (by omega)) wz hcz hBz
      refine W.nil ?_
      refine At.thenCode ?_
      refine C.ret ?_
      refine At.blockRet ?_
      refine At.thenRet ?_
      -- RESULT IN A CELL
      exact At.retC Try.results32 rfl r1 Try.underlying70 rfl (by rw [ev_length]; kernel_rfl) ⟨rfl, r2, r3⟩
    · refine C.seq ?_
      refine C.region ?_
      refine W.eqlI rfl rfl rfl ?_
      refine W.assign rfl rfl ?_
      refine W.nil ?_
      refine At.thenCode ?_
      first | refine C.condD rfl (fun c29 => ?_) (fun c29 => ?_) | refine C.cond rfl (fun c29 => ?_) (fun c29 => ?_)
      · refine C.seq ?_
        refine C.region ?_
        refine W.move rfl rfl ?_
        refine W.move rfl rfl ?_
        refine W.call Try.call16 rfl (Gen.Next_ok g _ u _ (nx_lt _) hB7) rfl ?_
        rintro v33 w33 ⟨rfl, hc33, hB33⟩
        refine W.buildS [(0, 1), (1, 1), (2, 1), (3, 1), (4, 1), (5, 1), (6, 1), (7, 3), (10, 32)] (evC 4 (draw (nx s) u) 0 0 0 0) [(.int .i64 0), (.int .i64 0), (.int .i64 0), (.int .i64 0), (.int .i64 0), (.int .i64 0), (.int .u64 0), (.int .i64 0), (.int .i64 0), (.int .i64 0), (.int .u8 0), (.int .u8 0), (.int .u8 0), (.int .u8 0), (.int .u8 0), (.int .u8 0), (.int .u8 0), (.int .u8 0), (.int .u8 0), (.int .u8 0), (.int .u8 0), (.int .u8 0), (.int .u8 0), (.int .u8 0), (.int .u8 0), (.int .u8 0), (.int .u8 0), (.int .u8 0), (.int .u8 0), (.int .u8 0), (.int .u8 0), (.int .u8 0), (.int .u8 0), (.int .u8 0), (.int .u8 0), (.int .u8 0), (.int .u8 0), (.int .u8 0), (.int .u8 0), (.int .u8 0), (.int .u8 0), (.int .u8 0)] Try.underlying70 (by kernel_rfl) (by kernel_rfl) rfl rfl rfl ?_
        refine W.storeA (evC 4 (draw (nx s) u) 0 0 0 0) rfl rfl (hB4.chg hc33 hne) rfl (by kernel_rfl) (evC_typed _ _ _ _ _ _).one ?_
        intro wz hcz hBz
        obtain ⟨r1, r2, r3⟩ := hsz _ _ _ _ (by unfold evL; rw [if_neg c8, if_neg c17, if_pos c29]) (by unfold evS; rw [if_neg c8, if_neg c17, if_pos c29]) hg47 (hc7'.trans hc33) hB33 wz hcz hBz
        refine W.nil ?_
        refine At.thenCode ?_
        refine C.ret ?_
        refine At.blockRet ?_
        refine At.thenRet ?_
        -- RESULT IN A CELL
        exact At.retC Try.results32 rfl r1 Try.underlying70 rfl (by rw [ev_length]; kernel_rfl) ⟨rfl, r2, r3⟩
      · refine C.seq ?_
        refine C.region ?_
        refine W.eqlI rfl rfl rfl ?_
        refine W.assign rfl rfl ?_
        refine W.nil ?_
        refine At.thenCode ?_
        first | refine C.condD rfl (fun c35 => ?_) (fun c35 => ?_) | refine C.cond rfl (fun c35 => ?_) (fun c35 => ?_)
        · refine C.seq ?_
          refine C.region ?_
          refine W.move rfl rfl ?_
          refine W.move rfl rfl ?_
          refine W.call Try.call16 rfl (Gen.Next_ok g _ u _ (nx_lt _) hB7) rfl ?_
          rintro v39 w39 ⟨rfl, hc39, hB39⟩
          refine W.move rfl rfl ?_
          refine W.call Try.call16 rfl (Gen.Next_ok g _ 3 _ (nx_lt _) hB39) rfl ?_
          rintro v41 w41 ⟨rfl, hc41, hB41⟩
          refine W.buildS [(0, 1), (1, 1), (2, 1), (3, 1), (4, 1), (5, 1), (6, 1), (7, 3), (10, 32)] (evC 7 (draw (nx s) u) 0 (draw (nx (nx s)) 3) 0 0) [(.int .i64 0), (.int .i64 0), (.int .i64 0), (.int .i64 0), (.int .i64 0), (.int .i64 0), (.int .u64 0), (.int .i64 0), (.int .i64 0), (.int .i64 0), (.int .u8 0), (.int .u8 0), (.int .u8 0), (.int .u8 0), (.int .u8 0), (.int .u8 0), (.int .u8 0), (.int .u8 0), (.int .u8 0), (.int .u8 0), (.int .u8 0), (.int .u8 0), (.int .u8 0), (.int .u8 0), (.int .u8 0), (.int .u8 0), (.int .u8 0), (.int .u8 0), (.int .u8 0), (.int .u8 0), (.int .u8 0), (.int .u8 0), (.int .u8 0), (.int .u8 0), (.int .u8 0), (.int .u8 0), (.int .u8 0), (.int .u8 0), (.int .u8 0), (.int .u8 0), (.int .u8 0), (.int .u8 0)] Try.underlying70 (by kernel_rfl) (by kernel_rfl) rfl rfl rfl ?_
          refine W.storeA (evC 7 (draw (nx s) u) 0 (draw (nx (nx s)) 3) 0 0) rfl rfl ((hB4.chg hc39 hne).chg hc41 hne) rfl (by kernel_rfl) (evC_typed _ _ _ _ _ _).one ?_
          intro wz hcz hBz
          obtain ⟨r1, r2, r3⟩ := hsz _ _ _ _ (by unfold evL; rw [if_neg c8, if_neg c17, if_neg c29, if_pos c35]) (by unfold evS; rw [if_neg c8, if_neg c17, if_neg c29, if_pos c35]) hg47 ((hc7'.trans hc39).trans hc41) hB41 wz hcz hBz
          refine W.nil ?_
          refine At.thenCode ?_
          refine C.ret ?_
          refine At.blockRet ?_
          refine At.thenRet ?_
          -- RESULT IN A CELL
          exact At.retC Try.results32 rfl r1 Try.underlying70 rfl (by rw [ev_length]; kernel_rfl) ⟨rfl, r2, r3⟩
        · refine C.seq ?_
          refine C.region ?_
          refine W.eqlI rfl rfl rfl ?_
          refine W.assign rfl rfl ?_
          refine W.nil ?_
          refine At.thenCode ?_
          first | refine C.condD rfl (fun c43 => ?_) (fun c43 => ?_) | refine C.cond rfl (fun c43 => ?_) (fun c43 => ?_)
          · refine C.seq ?_
            refine C.region ?_
            refine W.move rfl rfl ?_
            refine W.move rfl rfl ?_
            refine W.call Try.call16 rfl (Gen.Next_ok g _ u _ (nx_lt _) hB7) rfl ?_
            rintro v47 w47 ⟨rfl, hc47, hB47⟩
            refine W.buildS [(0, 1), (1, 1), (2, 1), (3, 1), (4, 1), (5, 1), (6, 1), (7, 3), (10, 32)] (evC 10 (draw (nx s) u) 0 0 0 0) [(.int .i64 0), (.int .i64 0), (.int .i64 0), (.int .i64 0), (.int .i64 0), (.int .i64 0), (.int .u64 0), (.int .i64 0), (.int .i64 0), (.int .i64 0), (.int .u8 0), (.int .u8 0), (.int .u8 0), (.int .u8 0), (.int .u8 0), (.int .u8 0), (.int .u8 0), (.int .u8 0), (.int .u8 0), (.int .u8 0), (.int .u8 0), (.int .u8 0), (.int .u8 0), (.int .u8 0), (.int .u8 0), (.int .u8 0), (.int .u8 0), (.int .u8 0), (.int .u8 0), (.int .u8 0), (.int .u8 0), (.int .u8 0), (.int .u8 0), (.int .u8 0), (.int .u8 0), (.int .u8 0), (.int .u8 0), (.int .u8 0), (.int .u8 0), (.int .u8 0), (.int .u8 0), (.int .u8 0)] Try.underlying70 (by kernel_rfl) (by kernel_rfl) rfl rfl rfl ?_
            refine W.storeA (evC 10 (draw (nx s) u) 0 0 0 0) rfl rfl (hB4.chg hc47 hne) rfl (by kernel_rfl) (evC_typed _ _ _ _ _ _).one ?_
            intro wz hcz hBz
            obtain ⟨r1, r2, r3⟩ := hsz _ _ _ _ (by unfold evL; rw [if_neg c8, if_neg c17, if_neg c29, if_neg c35, if_pos c43]) (by unfold evS; rw [if_neg c8, if_neg c17, if_neg c29, if_neg c35, if_pos c43]) hg47 (hc7'.trans hc47) hB47 wz hcz hBz
            refine W.nil ?_
            refine At.thenCode ?_
            refine C.ret ?_
            refine At.blockRet ?_
            refine At.thenRet ?_
            -- RESULT IN A CELL
            exact At.retC Try.results32 rfl r1 Try.underlying70 rfl (by rw [ev_length]; kernel_rfl) ⟨rfl, r2, r3⟩
          · refine C.skip ?_
            refine At.blockNormal ?_
            refine At.thenCode ?_
            refine C.seq ?_
            refine C.region ?_
            refine W.buildS [(0, 1), (1, 1), (2, 1), (3, 1), (4, 1), (5, 1), (6, 1), (7, 3), (10, 32)] (evC 8 0 0 0 0 0) [(.int .i64 0), (.int .i64 0), (.int .i64 0), (.int .i64 0), (.int .i64 0), (.int .i64 0), (.int .u64 0), (.int .i64 0), (.int .i64 0), (.int .i64 0), (.int .u8 0), (.int .u8 0), (.int .u8 0), (.int .u8 0), (.int .u8 0), (.int .u8 0), (.int .u8 0), (.int .u8 0), (.int .u8 0), (.int .u8 0), (.int .u8 0), (.int .u8 0), (.int .u8 0), (.int .u8 0), (.int .u8 0), (.int .u8 0), (.int .u8 0), (.int .u8 0), (.int .u8 0), (.int .u8 0), (.int .u8 0), (.int .u8 0), (.int .u8 0), (.int .u8 0), (.int .u8 0), (.int .u8 0), (.int .u8 0), (.int .u8 0), (.int .u8 0), (.int .u8 0), (.int .u8 0), (.int .u8 0)] Try.underlying70 (by kernel_rfl) (by kernel_rfl) rfl rfl rfl ?_
            refine W.storeA (evC 8 0 0 0 0 0) rfl rfl hB4 rfl (by kernel_rfl) (evC_typed _ _ _ _ _ _).one ?_
            intro wz hcz hBz
            obtain ⟨r1, r2, r3⟩ := hsz _ _ _ _ (by unfold evL; rw [if_neg c8, if_neg c17, if_neg c29, if_neg c35, if_neg c43]) (by unfold evS; rw [if_neg c8, if_neg c17, if_neg c29, if_neg c35, if_neg c43]) hg47 hc7' hB7 wz hcz hBz
            refine W.nil ?_
            refine At.thenCode ?_
            refine C.ret ?_
            -- RESULT IN A CELL
            exact At.retC Try.results32 rfl r1 Try.underlying70 rfl (by rw [ev_length]; kernel_rfl) ⟨rfl, r2, r3⟩
end Go.Proofs.Ytenjokoialgjbaa.Gen
