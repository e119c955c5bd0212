/- The walks of chapter 15's laws on all chains and all numbers. -/
import Derived.Test.YtnldohjhjoldaaaLaw15
namespace Go.Proofs.Ytnldohjhjoldaaa.Law15
open Go Go.RowKit Go.Proofs.Ytnldohjhjoldaaa.KW Go.Proofs.Ytnldohjhjoldaaa.Words Go.Proofs.Ytnldohjhjoldaaa.Sets
set_option linter.unusedVariables false
set_option linter.unusedSimpArgs false
set_option maxRecDepth 100000
theorem own_form {w : World} {base e sz n c : Nat} {ao : Option Addr} {cs : List Value} (h : w.ownsRow base e sz (.slice ao n c) n cs) : Sl w ao n c sz cs := by
  obtain ⟨ao1, c1, he1, hS1, _⟩ := ownsRow_form h
  injection he1 with h1 h2 h3
  subst h1; subst h3
  exact hS1
theorem XB : Elem Try.prog 4 1 1 (.bool false) := Elem.of (by kernel_rfl) rfl rfl
/-- Which numbers were met: the first p. -/
def seenL (p n : Nat) : List Value := List.replicate p (.bool true) ++ List.replicate (n - p) (.bool false)
theorem seenL_length {p n : Nat} (h : p ≤ n) : (seenL p n).length = n := by unfold seenL; simp; omega
theorem seenL_get {p n : Nat} (h : p < n) : (seenL p n)[p]? = some (.bool false) := by
  unfold seenL
  rw [List.getElem?_append_right (by simp), List.getElem?_replicate, if_pos (by simp; omega)]
theorem seenL_set {p n : Nat} (h : p < n) : (seenL p n).set p (.bool true) = seenL (p + 1) n := by
  unfold seenL
  rw [List.set_append_right _ _ (by simp), List.length_replicate, Nat.sub_self, show n - p = (n - (p + 1)) + 1 by omega, List.replicate_succ, List.set_cons_zero, List.replicate_succ', List.append_assoc]
  rfl
theorem tri_any {g : Nat} (h : g ≤ 60) : 0 ≤ (g : Int) * ((g : Int) - 1) ∧ (g : Int) * ((g : Int) - 1) ≤ 1099512676352 ∧ (g : Int) * ((g : Int) - 1) / 2 = (tri g : Int) := by
  cases g with
  | zero => decide
  | succ g =>
    have := tri_bound (g := g + 1) (by omega) (by omega)
    exact ⟨this.1, this.2, tri_int (by omega)⟩
theorem SetsNumbers_walk (G : Int) (w : World) (hn : -9223372036854775808 ≤ G ∧ G ≤ 9223372036854775807) :
    Ct Try.prog 9 #[.int .i64 G] w (LawOk w) := by
  refine Ct.enter [(0, .int .i64 G)] Try.func9 rfl rfl rfl rfl ?_
  refine C.seq ?_
  refine C.region ?_
  refine W.assign rfl rfl ?_
  refine W.nil ?_
  refine At.thenCode ?_
  refine C.seq ?_
  refine C.region ?_
  refine W.call Try.call27 rfl (alive_ok _) rfl ?_
  rintro v10 w10 ⟨rfl, hX10⟩
  refine W.assign rfl rfl ?_
  refine W.nil ?_
  refine At.thenCode ?_
  refine C.seq ?_
  refine C.seq ?_
  refine C.region ?_
  refine W.move rfl rfl ?_
  first | refine W.notD rfl rfl ?_ | refine W.notB rfl rfl ?_
  refine W.move rfl rfl ?_
  refine W.wants rfl rfl rfl rfl ?_
  refine W.move rfl rfl ?_
  refine W.wants rfl rfl rfl rfl ?_
  refine W.lssI rfl rfl rfl ?_
  refine W.pickF rfl rfl rfl ?_
  refine W.move rfl rfl ?_
  first | refine W.splitD (fun g17 => ?_) (fun g17 => ?_) | refine W.splitB (fun g17 => ?_) (fun g17 => ?_)
  · refine W.skips rfl rfl rfl rfl rfl rfl ?_
    refine W.skips rfl rfl rfl rfl rfl rfl ?_
    refine W.pickT rfl rfl rfl ?_
    refine W.nil ?_
    refine At.thenCode ?_
    refine C.condT rfl ?_
    refine C.seq ?_
    refine C.region ?_
    refine W.move rfl rfl ?_
    refine W.assign rfl rfl ?_
    refine W.nil ?_
    refine At.thenCode ?_
    refine C.ret ?_
    refine At.thenRet ?_
    refine At.ret1 Try.results9 rfl ?_
    first | exact ⟨rfl, Ext.below hX1⟩ | exact ⟨rfl, Ext.below hX10⟩
  · refine W.wants rfl rfl rfl rfl ?_
    refine W.move rfl rfl ?_
    refine W.wants rfl rfl rfl rfl ?_
    refine W.gtrI rfl rfl rfl ?_
    refine W.pickF rfl rfl rfl ?_
    refine W.nil ?_
    refine At.thenCode ?_
    first | refine C.condD rfl (fun c20 => ?_) (fun c20 => ?_) | refine C.cond rfl (fun c20 => ?_) (fun c20 => ?_)
    · refine C.seq ?_
      refine C.region ?_
      refine W.move rfl rfl ?_
      refine W.assign rfl rfl ?_
      refine W.nil ?_
      refine At.thenCode ?_
      refine C.ret ?_
      refine At.thenRet ?_
      refine At.ret1 Try.results9 rfl ?_
      first | exact ⟨rfl, Ext.below hX1⟩ | exact ⟨rfl, Ext.below hX10⟩
    · obtain ⟨g, hg⟩ : ∃ g : Nat, G = (g : Int) := ⟨G.toNat, by omega⟩
      have hg60 : g ≤ 60 := by omega
      obtain ⟨ht1, ht2, ht3⟩ := tri_any hg60
      rw [← hg] at ht1 ht2 ht3
      have htm := tri_mono hg60
      have ht60 : tri 60 = 1770 := by decide
      refine C.skip ?_
      refine At.thenCode ?_
      refine C.seq ?_
      refine C.region ?_
      refine W.move rfl rfl ?_
      refine W.move rfl rfl ?_
      first | refine W.subI rfl rfl (by omega) rfl ?_ | refine W.subW rfl rfl rfl ?_
      refine W.mulI rfl rfl (by omega) rfl ?_
      first | refine W.quoI rfl rfl (by omega) rfl ?_ | refine W.quoW rfl rfl (by omega) rfl ?_
      rw [ht3]
      refine W.assign rfl rfl ?_
      refine W.nil ?_
      refine At.thenCode ?_
      refine C.seq ?_
      refine C.seq ?_
      refine C.region ?_
      refine W.move rfl rfl ?_
      refine W.lssI rfl rfl rfl ?_
      refine W.nil ?_
      refine At.thenCode ?_
      first | refine C.condD rfl (fun c28 => ?_) (fun c28 => ?_) | refine C.cond rfl (fun c28 => ?_) (fun c28 => ?_)
      · have htz : tri g = 0 := by
          have := tri_mono (show g ≤ 1 by omega)
          have h1 : tri 1 = 0 := by decide
          omega
        refine C.region ?_
        refine W.assign rfl rfl ?_
        refine W.nil ?_
        refine At.thenCode ?_
        refine C.seq ?_
        refine C.region ?_
        refine W.move rfl rfl ?_
        refine W.make1 (k := tri g) XB rfl Try.underlying54 rfl rfl (by first | rfl | (rw [htz]; rfl)) (by first | rfl | (rw [htz]; rfl)) (by omega) (by omega) rfl ?_
        intro gs ws hgs hXs hos
        have hos : World.ownsRow ws w.heap.size 4 1 (.slice (some ⟨gs, 0, none⟩) (tri g) (tri g)) (tri g) (seenL (tri 0) (tri g)) := by
          have e : seenL (tri 0) (tri g) = List.replicate (tri g) (.bool false) := by unfold seenL tri; simp
          rw [e]
          exact ownsRow_base hos hX10.size
        have hgb : w.heap.size ≤ gs := by have := hX10.size; omega
        refine W.assign rfl rfl ?_
        refine W.nil ?_
        refine At.thenCode ?_
        refine C.seq ?_
        refine C.seq ?_
        refine C.region ?_
        refine W.assign rfl rfl ?_
        refine W.nil ?_
        refine At.thenCode ?_
        refine C.block ?_
        refine C.loop (X := Nat) (fun x_ => [(0, .int .i64 G), (4, .int .i64 (tri g : Int)), (5, .slice (some ⟨gs, 0, none⟩) (tri g) (tri g)), (6, .int .i64 (x_ : Int))]) (fun x_ w1 => Ext w w1 ∧ x_ ≤ g ∧ World.ownsRow w1 w.heap.size 4 1 (.slice (some ⟨gs, 0, none⟩) (tri g) (tri g)) (tri g) (seenL (tri x_) (tri g))) (fun x_ => g - x_) (0) (Sub.cons (rfl) (Sub.cons (look_eq rfl (by first | rfl | (rw [htz]; rfl))) (Sub.cons (rfl) (Sub.cons (rfl) (Sub.nil))))) ?start1 ?_
        case start1 =>
          show Ext w _ ∧ (0) ≤ g ∧ World.ownsRow _ w.heap.size 4 1 (.slice (some ⟨gs, 0, none⟩) (tri g) (tri g)) (tri g) (seenL (tri (0)) (tri g))
          exact ⟨hX10.ext hXs, by omega, hos⟩
        rintro a w1 hI_
        replace hI_ : Ext w w1 ∧ a ≤ g ∧ World.ownsRow w1 w.heap.size 4 1 (.slice (some ⟨gs, 0, none⟩) (tri g) (tri g)) (tri g) (seenL (tri a) (tri g)) := hI_
        obtain ⟨hX1, ha, hO1⟩ := hI_
        refine C.weaken (l' := [(0, .int .i64 G), (4, .int .i64 (tri g : Int)), (5, .slice (some ⟨gs, 0, none⟩) (tri g) (tri g)), (6, .int .i64 (a : Int))]) (Sub.cons (rfl) (Sub.cons (rfl) (Sub.cons (rfl) (Sub.cons (rfl) (Sub.nil))))) ?_
        refine C.seq ?_
        refine C.seq ?_
        refine C.region ?_
        refine W.move rfl rfl ?_
        refine W.move rfl rfl ?_
        refine W.lssI rfl rfl rfl ?_
        refine W.nil ?_
        refine At.thenCode ?_
        first | refine C.condD rfl (fun c33 => ?_) (fun c33 => ?_) | refine C.cond rfl (fun c33 => ?_) (fun c33 => ?_)
        · have hta := tri_mono (show a + 1 ≤ g by omega)
          rw [tri_succ] at hta
          refine C.skip ?_
          refine At.thenCode ?_
          refine C.seq ?_
          refine C.block ?_
          refine C.seq ?_
          refine C.region ?_
          refine W.assign rfl rfl ?_
          refine W.nil ?_
          refine At.thenCode ?_
          refine C.block ?_
          refine C.loop (X := Nat) (fun x_ => [(0, .int .i64 G), (4, .int .i64 (tri g : Int)), (5, .slice (some ⟨gs, 0, none⟩) (tri g) (tri g)), (6, .int .i64 (a : Int)), (7, .int .i64 (x_ : Int))]) (fun x_ w2 => Ext w w2 ∧ x_ ≤ a ∧ World.ownsRow w2 w.heap.size 4 1 (.slice (some ⟨gs, 0, none⟩) (tri g) (tri g)) (tri g) (seenL (tri a + x_) (tri g))) (fun x_ => a - x_) (0) (Sub.cons (rfl) (Sub.cons (rfl) (Sub.cons (rfl) (Sub.cons (rfl) (Sub.cons (rfl) (Sub.nil)))))) ?start2 ?_
          case start2 =>
            show Ext w _ ∧ (0) ≤ a ∧ World.ownsRow _ w.heap.size 4 1 (.slice (some ⟨gs, 0, none⟩) (tri g) (tri g)) (tri g) (seenL (tri a + (0)) (tri g))
            exact ⟨hX1, by omega, hO1⟩
          rintro b w2 hI_
          replace hI_ : Ext w w2 ∧ b ≤ a ∧ World.ownsRow w2 w.heap.size 4 1 (.slice (some ⟨gs, 0, none⟩) (tri g) (tri g)) (tri g) (seenL (tri a + b) (tri g)) := hI_
          obtain ⟨hX2, hb, hO2⟩ := hI_
          refine C.weaken (l' := [(0, .int .i64 G), (4, .int .i64 (tri g : Int)), (5, .slice (some ⟨gs, 0, none⟩) (tri g) (tri g)), (6, .int .i64 (a : Int)), (7, .int .i64 (b : Int))]) (Sub.cons (rfl) (Sub.cons (rfl) (Sub.cons (rfl) (Sub.cons (rfl) (Sub.cons (rfl) (Sub.nil)))))) ?_
          refine C.seq ?_
          refine C.seq ?_
          refine C.region ?_
          refine W.move rfl rfl ?_
          refine W.move rfl rfl ?_
          refine W.lssI rfl rfl rfl ?_
          refine W.nil ?_
          refine At.thenCode ?_
          first | refine C.condD rfl (fun c38 => ?_) (fun c38 => ?_) | refine C.cond rfl (fun c38 => ?_) (fun c38 => ?_)
          · have hpn : pairN a b = tri a + b := by
              unfold pairN
              rw [if_neg (by unfold pairBad; omega), show (max (a : Int) (b : Int)).toNat = a by omega, show (min (a : Int) (b : Int)).toNat = b by omega]
            have hpe : pairE a b = 0 := by unfold pairE; rw [if_neg (by unfold pairBad; omega)]
            refine C.skip ?_
            refine At.thenCode ?_
            refine C.seq ?_
            refine C.block ?_
            refine C.seq ?_
            refine C.region ?_
            refine W.move rfl rfl ?_
            refine W.move rfl rfl ?_
            refine W.call Try.call30 rfl (Sets.Pair_ok _ _ _ (by omega) (by omega)) rfl ?_
            rintro v44 w44 ⟨rfl, rfl⟩
            rw [hpn, hpe]
            refine W.move rfl rfl ?_
            refine W.extract rfl rfl rfl ?_
            refine W.extract rfl rfl rfl ?_
            refine W.assign rfl rfl ?_
            refine W.assign rfl rfl ?_
            refine W.nil ?_
            refine At.thenCode ?_
            refine C.seq ?_
            refine C.seq ?_
            refine C.region ?_
            refine W.move rfl rfl ?_
            refine W.call Try.call32 rfl (num_ok _ _) rfl ?_
            rintro v48 w48 ⟨rfl, rfl⟩
            refine W.neqI rfl rfl rfl ?_
            refine W.eqv (bF (by decide)) ?_
            refine W.move rfl rfl ?_
            refine W.wants rfl rfl rfl rfl ?_
            refine W.move rfl rfl ?_
            refine W.wants rfl rfl rfl rfl ?_
            refine W.lssI rfl rfl rfl ?_
            refine W.eqv (bF (by omega)) ?_
            refine W.pickF rfl rfl rfl ?_
            refine W.move rfl rfl ?_
            refine W.wants rfl rfl rfl rfl ?_
            refine W.move rfl rfl ?_
            refine W.wants rfl rfl rfl rfl ?_
            refine W.move rfl rfl ?_
            refine W.wants rfl rfl rfl rfl ?_
            refine W.geqI rfl rfl rfl ?_
            refine W.eqv (bF (by omega)) ?_
            refine W.pickF rfl rfl rfl ?_
            refine W.move rfl rfl ?_
            refine W.wants rfl rfl rfl rfl ?_
            refine W.move rfl rfl ?_
            refine W.wants rfl rfl rfl rfl ?_
            refine W.move rfl rfl ?_
            refine W.wants rfl rfl rfl rfl ?_
            refine W.indexS (i := ((tri a + b : Nat) : Int)) XB Try.underlying54 rfl (own_form hO2) rfl ⟨by omega, by omega⟩ rfl ?_
            intro ad62 _ _ hc62
            refine W.wants rfl rfl rfl rfl ?_
            refine W.load (v := .bool false) rfl Try.underlying4 rfl (by have h := hc62 0 (.bool false) (by rw [List.getElem?_drop, Int.toNat_natCast, Nat.mul_one, Nat.add_zero]; exact seenL_get (by omega)); rwa [add_zero'] at h) rfl ?_
            refine W.eqv (v' := .bool false) (rfl) ?_
            refine W.pickF rfl rfl rfl ?_
            refine W.nil ?_
            refine At.thenCode ?_
            refine C.condF rfl ?_
            refine C.skip ?_
            refine At.thenCode ?_
            refine C.region ?_
            refine W.move rfl rfl ?_
            refine W.move rfl rfl ?_
            refine W.indexS (i := ((tri a + b : Nat) : Int)) XB Try.underlying54 rfl (own_form hO2) rfl ⟨by omega, by omega⟩ rfl ?_
            intro ad67 _ had67 _
            obtain rfl : ad67 = ⟨gs, tri a + b, none⟩ := by rw [had67 _ rfl, add_mk, Int.toNat_natCast, Nat.zero_add, Nat.mul_one]
            refine W.storeO rfl rfl rfl hO2 (by omega) (by kernel_rfl) ?_
            intro w3 hc3 hO3
            rw [seenL_set (by omega)] at hO3
            refine W.nil ?_
            refine At.blockNormal ?_
            refine At.thenCode ?_
            refine C.region ?_
            refine W.move rfl rfl ?_
            first | refine W.addI rfl rfl (by omega) rfl ?_ | refine W.addW rfl rfl rfl ?_
            refine W.assign rfl rfl ?_
            refine W.nil ?_
            refine At.thenRound (b + 1) (Sub.cons (rfl) (Sub.cons (rfl) (Sub.cons (rfl) (Sub.cons (rfl) (Sub.cons (look_eq rfl (iV (by omega))) (Sub.nil)))))) (show Ext w _ ∧ (b + 1) ≤ a ∧ World.ownsRow _ w.heap.size 4 1 (.slice (some ⟨gs, 0, none⟩) (tri g) (tri g)) (tri g) (seenL (tri a + (b + 1)) (tri g)) from ?_) (show a - (b + 1) < a - b from ?_)
            · exact ⟨hX2.news hc3 (fun k hk => Or.inr (by omega)), by omega, hO3⟩
            · omega
          · refine C.exit ?_
            refine At.thenExit ?_
            refine At.thenExit ?_
            refine At.blockSelf ?_
            refine At.blockNormal ?_
            refine At.thenCode ?_
            refine C.region ?_
            refine W.move rfl rfl ?_
            first | refine W.addI rfl rfl (by omega) rfl ?_ | refine W.addW rfl rfl rfl ?_
            refine W.assign rfl rfl ?_
            refine W.nil ?_
            refine At.thenRound (a + 1) (Sub.cons (rfl) (Sub.cons (rfl) (Sub.cons (rfl) (Sub.cons (look_eq rfl (iV (by omega))) (Sub.nil))))) (show Ext w _ ∧ (a + 1) ≤ g ∧ World.ownsRow _ w.heap.size 4 1 (.slice (some ⟨gs, 0, none⟩) (tri g) (tri g)) (tri g) (seenL (tri (a + 1)) (tri g)) from ?_) (show g - (a + 1) < g - a from ?_)
            · obtain rfl : a = b := by omega
              exact ⟨hX2, by omega, by rw [tri_succ]; exact hO2⟩
            · omega
        · refine C.exit ?_
          refine At.thenExit ?_
          refine At.thenExit ?_
          refine At.blockSelf ?_
          refine At.thenCode ?_
          refine C.seq ?_
          refine C.region ?_
          refine W.assign rfl rfl ?_
          refine W.nil ?_
          refine At.thenCode ?_
          refine C.ret ?_
          refine At.ret1 Try.results9 rfl ?_
          first | exact ⟨rfl, Ext.below hX1⟩ | exact ⟨rfl, Ext.below hX10⟩
      · refine C.skip ?_
        refine At.thenCode ?_
        refine C.seq ?_
        refine C.region ?_
        refine W.move rfl rfl ?_
        refine W.make1 (k := tri g) XB rfl Try.underlying54 rfl rfl (by first | rfl | (rw [htz]; rfl)) (by first | rfl | (rw [htz]; rfl)) (by omega) (by omega) rfl ?_
        intro gs ws hgs hXs hos
        have hos : World.ownsRow ws w.heap.size 4 1 (.slice (some ⟨gs, 0, none⟩) (tri g) (tri g)) (tri g) (seenL (tri 0) (tri g)) := by
          have e : seenL (tri 0) (tri g) = List.replicate (tri g) (.bool false) := by unfold seenL tri; simp
          rw [e]
          exact ownsRow_base hos hX10.size
        have hgb : w.heap.size ≤ gs := by have := hX10.size; omega
        refine W.assign rfl rfl ?_
        refine W.nil ?_
        refine At.thenCode ?_
        refine C.seq ?_
        refine C.seq ?_
        refine C.region ?_
        refine W.assign rfl rfl ?_
        refine W.nil ?_
        refine At.thenCode ?_
        refine C.block ?_
        refine C.loop (X := Nat) (fun x_ => [(0, .int .i64 G), (4, .int .i64 (tri g : Int)), (5, .slice (some ⟨gs, 0, none⟩) (tri g) (tri g)), (6, .int .i64 (x_ : Int))]) (fun x_ w1 => Ext w w1 ∧ x_ ≤ g ∧ World.ownsRow w1 w.heap.size 4 1 (.slice (some ⟨gs, 0, none⟩) (tri g) (tri g)) (tri g) (seenL (tri x_) (tri g))) (fun x_ => g - x_) (0) (Sub.cons (rfl) (Sub.cons (look_eq rfl (by first | rfl | (rw [htz]; rfl))) (Sub.cons (rfl) (Sub.cons (rfl) (Sub.nil))))) ?start3 ?_
        case start3 =>
          show Ext w _ ∧ (0) ≤ g ∧ World.ownsRow _ w.heap.size 4 1 (.slice (some ⟨gs, 0, none⟩) (tri g) (tri g)) (tri g) (seenL (tri (0)) (tri g))
          exact ⟨hX10.ext hXs, by omega, hos⟩
        rintro a w1 hI_
        replace hI_ : Ext w w1 ∧ a ≤ g ∧ World.ownsRow w1 w.heap.size 4 1 (.slice (some ⟨gs, 0, none⟩) (tri g) (tri g)) (tri g) (seenL (tri a) (tri g)) := hI_
        obtain ⟨hX1, ha, hO1⟩ := hI_
        refine C.weaken (l' := [(0, .int .i64 G), (4, .int .i64 (tri g : Int)), (5, .slice (some ⟨gs, 0, none⟩) (tri g) (tri g)), (6, .int .i64 (a : Int))]) (Sub.cons (rfl) (Sub.cons (rfl) (Sub.cons (rfl) (Sub.cons (rfl) (Sub.nil))))) ?_
        refine C.seq ?_
        refine C.seq ?_
        refine C.region ?_
        refine W.move rfl rfl ?_
        refine W.move rfl rfl ?_
        refine W.lssI rfl rfl rfl ?_
        refine W.nil ?_
        refine At.thenCode ?_
        first | refine C.condD rfl (fun c33 => ?_) (fun c33 => ?_) | refine C.cond rfl (fun c33 => ?_) (fun c33 => ?_)
        · have hta := tri_mono (show a + 1 ≤ g by omega)
          rw [tri_succ] at hta
          refine C.skip ?_
          refine At.thenCode ?_
          refine C.seq ?_
          refine C.block ?_
          refine C.seq ?_
          refine C.region ?_
          refine W.assign rfl rfl ?_
          refine W.nil ?_
          refine At.thenCode ?_
          refine C.block ?_
          refine C.loop (X := Nat) (fun x_ => [(0, .int .i64 G), (4, .int .i64 (tri g : Int)), (5, .slice (some ⟨gs, 0, none⟩) (tri g) (tri g)), (6, .int .i64 (a : Int)), (7, .int .i64 (x_ : Int))]) (fun x_ w2 => Ext w w2 ∧ x_ ≤ a ∧ World.ownsRow w2 w.heap.size 4 1 (.slice (some ⟨gs, 0, none⟩) (tri g) (tri g)) (tri g) (seenL (tri a + x_) (tri g))) (fun x_ => a - x_) (0) (Sub.cons (rfl) (Sub.cons (rfl) (Sub.cons (rfl) (Sub.cons (rfl) (Sub.cons (rfl) (Sub.nil)))))) ?start4 ?_
          case start4 =>
            show Ext w _ ∧ (0) ≤ a ∧ World.ownsRow _ w.heap.size 4 1 (.slice (some ⟨gs, 0, none⟩) (tri g) (tri g)) (tri g) (seenL (tri a + (0)) (tri g))
            exact ⟨hX1, by omega, hO1⟩
          rintro b w2 hI_
          replace hI_ : Ext w w2 ∧ b ≤ a ∧ World.ownsRow w2 w.heap.size 4 1 (.slice (some ⟨gs, 0, none⟩) (tri g) (tri g)) (tri g) (seenL (tri a + b) (tri g)) := hI_
          obtain ⟨hX2, hb, hO2⟩ := hI_
          refine C.weaken (l' := [(0, .int .i64 G), (4, .int .i64 (tri g : Int)), (5, .slice (some ⟨gs, 0, none⟩) (tri g) (tri g)), (6, .int .i64 (a : Int)), (7, .int .i64 (b : Int))]) (Sub.cons (rfl) (Sub.cons (rfl) (Sub.cons (rfl) (Sub.cons (rfl) (Sub.cons (rfl) (Sub.nil)))))) ?_
          refine C.seq ?_
          refine C.seq ?_
          refine C.region ?_
          refine W.move rfl rfl ?_
          refine W.move rfl rfl ?_
          refine W.lssI rfl rfl rfl ?_
          refine W.nil ?_
          refine At.thenCode ?_
          first | refine C.condD rfl (fun c38 => ?_) (fun c38 => ?_) | refine C.cond rfl (fun c38 => ?_) (fun c38 => ?_)
          · have hpn : pairN a b = tri a + b := by
              unfold pairN
              rw [if_neg (by unfold pairBad; omega), show (max (a : Int) (b : Int)).toNat = a by omega, show (min (a : Int) (b : Int)).toNat = b by omega]
            have hpe : pairE a b = 0 := by unfold pairE; rw [if_neg (by unfold pairBad; omega)]
            refine C.skip ?_
            refine At.thenCode ?_
            refine C.seq ?_
            refine C.block ?_
            refine C.seq ?_
            refine C.region ?_
            refine W.move rfl rfl ?_
            refine W.move rfl rfl ?_
            refine W.call Try.call30 rfl (Sets.Pair_ok _ _ _ (by omega) (by omega)) rfl ?_
            rintro v44 w44 ⟨rfl, rfl⟩
            rw [hpn, hpe]
            refine W.move rfl rfl ?_
            refine W.extract rfl rfl rfl ?_
            refine W.extract rfl rfl rfl ?_
            refine W.assign rfl rfl ?_
            refine W.assign rfl rfl ?_
            refine W.nil ?_
            refine At.thenCode ?_
            refine C.seq ?_
            refine C.seq ?_
            refine C.region ?_
            refine W.move rfl rfl ?_
            refine W.call Try.call32 rfl (num_ok _ _) rfl ?_
            rintro v48 w48 ⟨rfl, rfl⟩
            refine W.neqI rfl rfl rfl ?_
            refine W.eqv (bF (by decide)) ?_
            refine W.move rfl rfl ?_
            refine W.wants rfl rfl rfl rfl ?_
            refine W.move rfl rfl ?_
            refine W.wants rfl rfl rfl rfl ?_
            refine W.lssI rfl rfl rfl ?_
            refine W.eqv (bF (by omega)) ?_
            refine W.pickF rfl rfl rfl ?_
            refine W.move rfl rfl ?_
            refine W.wants rfl rfl rfl rfl ?_
            refine W.move rfl rfl ?_
            refine W.wants rfl rfl rfl rfl ?_
            refine W.move rfl rfl ?_
            refine W.wants rfl rfl rfl rfl ?_
            refine W.geqI rfl rfl rfl ?_
            refine W.eqv (bF (by omega)) ?_
            refine W.pickF rfl rfl rfl ?_
            refine W.move rfl rfl ?_
            refine W.wants rfl rfl rfl rfl ?_
            refine W.move rfl rfl ?_
            refine W.wants rfl rfl rfl rfl ?_
            refine W.move rfl rfl ?_
            refine W.wants rfl rfl rfl rfl ?_
            refine W.indexS (i := ((tri a + b : Nat) : Int)) XB Try.underlying54 rfl (own_form hO2) rfl ⟨by omega, by omega⟩ rfl ?_
            intro ad62 _ _ hc62
            refine W.wants rfl rfl rfl rfl ?_
            refine W.load (v := .bool false) rfl Try.underlying4 rfl (by have h := hc62 0 (.bool false) (by rw [List.getElem?_drop, Int.toNat_natCast, Nat.mul_one, Nat.add_zero]; exact seenL_get (by omega)); rwa [add_zero'] at h) rfl ?_
            refine W.eqv (v' := .bool false) (rfl) ?_
            refine W.pickF rfl rfl rfl ?_
            refine W.nil ?_
            refine At.thenCode ?_
            refine C.condF rfl ?_
            refine C.skip ?_
            refine At.thenCode ?_
            refine C.region ?_
            refine W.move rfl rfl ?_
            refine W.move rfl rfl ?_
            refine W.indexS (i := ((tri a + b : Nat) : Int)) XB Try.underlying54 rfl (own_form hO2) rfl ⟨by omega, by omega⟩ rfl ?_
            intro ad67 _ had67 _
            obtain rfl : ad67 = ⟨gs, tri a + b, none⟩ := by rw [had67 _ rfl, add_mk, Int.toNat_natCast, Nat.zero_add, Nat.mul_one]
            refine W.storeO rfl rfl rfl hO2 (by omega) (by kernel_rfl) ?_
            intro w3 hc3 hO3
            rw [seenL_set (by omega)] at hO3
            refine W.nil ?_
            refine At.blockNormal ?_
            refine At.thenCode ?_
            refine C.region ?_
            refine W.move rfl rfl ?_
            first | refine W.addI rfl rfl (by omega) rfl ?_ | refine W.addW rfl rfl rfl ?_
            refine W.assign rfl rfl ?_
            refine W.nil ?_
            refine At.thenRound (b + 1) (Sub.cons (rfl) (Sub.cons (rfl) (Sub.cons (rfl) (Sub.cons (rfl) (Sub.cons (look_eq rfl (iV (by omega))) (Sub.nil)))))) (show Ext w _ ∧ (b + 1) ≤ a ∧ World.ownsRow _ w.heap.size 4 1 (.slice (some ⟨gs, 0, none⟩) (tri g) (tri g)) (tri g) (seenL (tri a + (b + 1)) (tri g)) from ?_) (show a - (b + 1) < a - b from ?_)
            · exact ⟨hX2.news hc3 (fun k hk => Or.inr (by omega)), by omega, hO3⟩
            · omega
          · refine C.exit ?_
            refine At.thenExit ?_
            refine At.thenExit ?_
            refine At.blockSelf ?_
            refine At.blockNormal ?_
            refine At.thenCode ?_
            refine C.region ?_
            refine W.move rfl rfl ?_
            first | refine W.addI rfl rfl (by omega) rfl ?_ | refine W.addW rfl rfl rfl ?_
            refine W.assign rfl rfl ?_
            refine W.nil ?_
            refine At.thenRound (a + 1) (Sub.cons (rfl) (Sub.cons (rfl) (Sub.cons (rfl) (Sub.cons (look_eq rfl (iV (by omega))) (Sub.nil))))) (show Ext w _ ∧ (a + 1) ≤ g ∧ World.ownsRow _ w.heap.size 4 1 (.slice (some ⟨gs, 0, none⟩) (tri g) (tri g)) (tri g) (seenL (tri (a + 1)) (tri g)) from ?_) (show g - (a + 1) < g - a from ?_)
            · obtain rfl : a = b := by omega
              exact ⟨hX2, by omega, by rw [tri_succ]; exact hO2⟩
            · omega
        · refine C.exit ?_
          refine At.thenExit ?_
          refine At.thenExit ?_
          refine At.blockSelf ?_
          refine At.thenCode ?_
          refine C.seq ?_
          refine C.region ?_
          refine W.assign rfl rfl ?_
          refine W.nil ?_
          refine At.thenCode ?_
          refine C.ret ?_
          refine At.ret1 Try.results9 rfl ?_
          first | exact ⟨rfl, Ext.below hX1⟩ | exact ⟨rfl, Ext.below hX10⟩

/-! ### all chains -/
/-- How many of the first g groups have a chain, at least. -/
def hits (n : Int) : Nat → Int → Nat
  | 0, _ => 0
  | g + 1, c => hits n g c + (if c ∈ setL g n then 1 else 0)
theorem hits_one {n c : Int} {a : Nat} (h : c ∈ setL a n) : ∀ g, a < g → 1 ≤ hits n g c := by
  intro g
  induction g with
  | zero => intro h; omega
  | succ g ih =>
    intro hl
    unfold hits
    by_cases e : a = g
    · subst e; rw [if_pos h]; omega
    · have := ih (by omega); omega
theorem hits_two {n c : Int} {a b : Nat} (hab : a < b) (ha : c ∈ setL a n) (hb : c ∈ setL b n) : ∀ g, b < g → 2 ≤ hits n g c := by
  intro g
  induction g with
  | zero => intro h; omega
  | succ g ih =>
    intro hl
    unfold hits
    by_cases e : b = g
    · subst e
      have := hits_one ha b hab
      rw [if_pos hb]; omega
    · have := ih (by omega); omega
/-- Each chain is of two groups. -/
theorem hits_all {n : Int} (hok : okN n) {c : Int} (h0 : 0 ≤ c) (h1 : c < n) : 2 ≤ hits n (sidesN n + 1) c := by
  obtain ⟨s1, s2, s3⟩ := sides_spec hok
  have hsl := sidesN_le n
  obtain ⟨k, rfl⟩ : ∃ k : Nat, c = (k : Int) := ⟨c.toNat, by omega⟩
  obtain ⟨a, b, hb, ha, he⟩ := tri_onto (sidesN n + 1) k (by omega)
  have hp : (pairN a b : Int) % n = (k : Int) := by
    have h2 : pairN a b = k := by
      unfold pairN
      rw [if_neg (by unfold pairBad; omega), show (max (a : Int) (b : Int)).toNat = a by omega, show (min (a : Int) (b : Int)).toNat = b by omega, he]
    rw [h2]
    exact Int.emod_eq_of_lt h0 h1
  have hA : (k : Int) ∈ setL a n := by rw [← hp]; exact setL_mem (by omega) (by omega)
  have hB : (k : Int) ∈ setL b n := by rw [← hp, (pair_comm _ _).1]; exact setL_mem (by omega) (by omega)
  exact hits_two hb hB hA _ (by omega)
/-- The counts: each at least what is due, none great. -/
def Cnt (xs : List Int) (n : Nat) (least : Int → Nat) (most : Nat) : Prop := xs.length = n ∧ ∀ (i : Nat) (h : i < xs.length), (least i : Int) ≤ xs[i]'h ∧ xs[i]'h ≤ (most : Int)
theorem Cnt.zero (n : Nat) : Cnt (List.replicate n 0) n (fun _ => 0) 0 := ⟨by simp, fun i h => by simp⟩
theorem Cnt.bump {xs : List Int} {n most : Nat} {least : Int → Nat} (h : Cnt xs n least most) {c : Nat} (hc : c < xs.length) {least' : Int → Nat} (hl : ∀ d : Int, least' d ≤ least d + (if d = (c : Int) then 1 else 0)) : Cnt (xs.set c (xs[c]'hc + 1)) n least' (most + 1) := by
  refine ⟨by rw [List.length_set]; exact h.1, fun i hi => ?_⟩
  rw [List.length_set] at hi
  have h1 := h.2 i hi
  have h2 := hl i
  rw [List.getElem_set]
  split
  · rename_i e
    subst e
    rw [if_pos rfl] at h2
    omega
  · rename_i e
    rw [if_neg (by omega)] at h2
    omega
theorem SetsAll_walk (n : Int) (w : World) (hn : -9223372036854775808 ≤ n ∧ n ≤ 9223372036854775807) :
    Ct Try.prog 8 #[.int .i64 n] w (LawOk w) := by
  refine Ct.enter [(0, .int .i64 n)] Try.func8 rfl rfl rfl rfl ?_
  have hL := sidesN_le n
  refine C.seq ?_
  refine C.region ?_
  refine W.assign rfl rfl ?_
  refine W.nil ?_
  refine At.thenCode ?_
  refine C.seq ?_
  refine C.region ?_
  refine W.call Try.call27 rfl (alive_ok _) rfl ?_
  rintro v10 w10 ⟨rfl, hX10⟩
  refine W.assign rfl rfl ?_
  refine W.nil ?_
  refine At.thenCode ?_
  refine C.seq ?_
  refine C.seq ?_
  refine C.region ?_
  refine W.move rfl rfl ?_
  first | refine W.notD rfl rfl ?_ | refine W.notB rfl rfl ?_
  refine W.move rfl rfl ?_
  refine W.wants rfl rfl rfl rfl ?_
  refine W.move rfl rfl ?_
  refine W.wants rfl rfl rfl rfl ?_
  refine W.lssI rfl rfl rfl ?_
  refine W.pickF rfl rfl rfl ?_
  refine W.move rfl rfl ?_
  first | refine W.splitD (fun g17 => ?_) (fun g17 => ?_) | refine W.splitB (fun g17 => ?_) (fun g17 => ?_)
  · refine W.skips rfl rfl rfl rfl rfl rfl ?_
    refine W.skips rfl rfl rfl rfl rfl rfl ?_
    refine W.pickT rfl rfl rfl ?_
    refine W.nil ?_
    refine At.thenCode ?_
    refine C.condT rfl ?_
    refine C.seq ?_
    refine C.region ?_
    refine W.move rfl rfl ?_
    refine W.assign rfl rfl ?_
    refine W.nil ?_
    refine At.thenCode ?_
    refine C.ret ?_
    refine At.thenRet ?_
    refine At.ret1 Try.results8 rfl ?_
    first | exact ⟨rfl, Ext.below hX1⟩ | exact ⟨rfl, Ext.below hX10⟩
  · refine W.wants rfl rfl rfl rfl ?_
    refine W.move rfl rfl ?_
    refine W.wants rfl rfl rfl rfl ?_
    refine W.gtrI rfl rfl rfl ?_
    refine W.pickF rfl rfl rfl ?_
    refine W.nil ?_
    refine At.thenCode ?_
    first | refine C.condD rfl (fun c20 => ?_) (fun c20 => ?_) | refine C.cond rfl (fun c20 => ?_) (fun c20 => ?_)
    · refine C.seq ?_
      refine C.region ?_
      refine W.move rfl rfl ?_
      refine W.assign rfl rfl ?_
      refine W.nil ?_
      refine At.thenCode ?_
      refine C.ret ?_
      refine At.thenRet ?_
      refine At.ret1 Try.results8 rfl ?_
      first | exact ⟨rfl, Ext.below hX1⟩ | exact ⟨rfl, Ext.below hX10⟩
    · have hok : okN n := ⟨by omega, by omega⟩
      obtain ⟨m, hm⟩ : ∃ m : Nat, n = (m : Int) := ⟨n.toNat, by omega⟩
      refine C.skip ?_
      refine At.thenCode ?_
      refine C.seq ?_
      refine C.region ?_
      refine W.move rfl rfl ?_
      refine W.make1 (k := m) XI rfl Try.underlying22 rfl rfl hm hm (by omega) (by omega) rfl ?_
      intro gc wc hgc hXc hoc
      have hgb : w.heap.size ≤ gc := by have := hX10.size; omega
      have hoc : World.ownsRow wc w.heap.size 3 1 (.slice (some ⟨gc, 0, none⟩) m m) m ((List.replicate m (0 : Int)).map (.int .i64)) := by
        rw [List.map_replicate]; exact ownsRow_base hoc hX10.size
      refine W.assign rfl rfl ?_
      refine W.nil ?_
      refine At.thenCode ?_
      refine C.seq ?_
      refine C.seq ?_
      refine C.region ?_
      refine W.assign rfl rfl ?_
      refine W.nil ?_
      refine At.thenCode ?_
      refine C.block ?_
      refine C.loop (X := Nat × (List Int) × Nat) (fun x_ => [(0, .int .i64 n), (4, .slice (some ⟨gc, 0, none⟩) m m), (5, .int .i64 (x_.1 : Int))]) (fun x_ w1 => Ext w w1 ∧ x_.1 ≤ sidesN n + 1 ∧ x_.2.2 ≤ 1500 * x_.1 ∧ Cnt x_.2.1 m (hits n x_.1) x_.2.2 ∧ World.ownsRow w1 w.heap.size 3 1 (.slice (some ⟨gc, 0, none⟩) m m) m (x_.2.1.map (.int .i64))) (fun x_ => sidesN n + 1 - x_.1) (0, List.replicate m 0, 0) (Sub.cons (rfl) (Sub.cons (rfl) (Sub.cons (rfl) (Sub.nil)))) ?start1 ?_
      case start1 =>
        show Ext w _ ∧ (0) ≤ sidesN n + 1 ∧ (0) ≤ 1500 * (0) ∧ Cnt (List.replicate m 0) m (hits n (0)) (0) ∧ World.ownsRow _ w.heap.size 3 1 (.slice (some ⟨gc, 0, none⟩) m m) m ((List.replicate m 0).map (.int .i64))
        exact ⟨hX10.ext hXc, by omega, by omega, Cnt.zero m, hoc⟩
      rintro ⟨g, xs, q⟩ w1 hI_
      replace hI_ : Ext w w1 ∧ g ≤ sidesN n + 1 ∧ q ≤ 1500 * g ∧ Cnt xs m (hits n g) q ∧ World.ownsRow w1 w.heap.size 3 1 (.slice (some ⟨gc, 0, none⟩) m m) m (xs.map (.int .i64)) := hI_
      obtain ⟨hX1, hg, hq, hC1, hO1⟩ := hI_
      refine C.weaken (l' := [(0, .int .i64 n), (4, .slice (some ⟨gc, 0, none⟩) m m), (5, .int .i64 (g : Int))]) (Sub.cons (rfl) (Sub.cons (rfl) (Sub.cons (rfl) (Sub.nil)))) ?_
      refine C.seq ?_
      refine C.seq ?_
      refine C.region ?_
      refine W.move rfl rfl ?_
      refine W.move rfl rfl ?_
      refine W.call Try.call33 rfl (Sets.Sides_ok _ _ (by omega)) rfl ?_
      rintro v26 w26 ⟨rfl, rfl⟩
      refine W.leqI rfl rfl rfl ?_
      refine W.nil ?_
      refine At.thenCode ?_
      first | refine C.condD rfl (fun c27 => ?_) (fun c27 => ?_) | refine C.cond rfl (fun c27 => ?_) (fun c27 => ?_)
      · have hgo : groupOk (g : Int) n := ⟨hok, by omega, by omega⟩
        have hRg : setR (g : Int) n = setL (g : Int) n := by unfold setR; rw [if_pos hgo]
        have hEg : setE (g : Int) n = 0 := by unfold setE; rw [if_pos hgo]
        have hlg := setL_length hgo
        have hrg := setP_range (g := (g : Int)) (n := n) hok.1 (sidesN n + 1)
        refine C.skip ?_
        refine At.thenCode ?_
        refine C.seq ?_
        refine C.block ?_
        refine C.seq ?_
        refine C.region ?_
        refine W.move rfl rfl ?_
        refine W.move rfl rfl ?_
        refine W.call Try.call34 rfl (Sets.Set_ok _ _ _ (by omega) (by omega)) rfl ?_
        rintro v33 w33 ⟨⟨ao33, c33, rfl, hS33, hfS33⟩, hX33⟩
        rw [hRg] at hS33 ⊢
        rw [hEg]
        have hO33 := ownsRow_ext hO1 hX33
        have hX33' := hX1.ext hX33
        have hfr : ∀ ad, ao33 = some ad → (List.map (.int .i64) (setL (g : Int) n) : List Value) ≠ [] → ad.block ≠ gc := fun ad e hne => by
          have h1 := hfS33 ad e
          have h2 := (World.ownsRow.lt hO1 gc rfl).2
          omega
        refine W.move rfl rfl ?_
        refine W.extract rfl rfl rfl ?_
        refine W.extract rfl rfl rfl ?_
        refine W.assign rfl rfl ?_
        refine W.assign rfl rfl ?_
        refine W.nil ?_
        refine At.thenCode ?_
        refine C.seq ?_
        refine C.seq ?_
        refine C.region ?_
        refine W.move rfl rfl ?_
        refine W.call Try.call32 rfl (num_ok _ _) rfl ?_
        rintro v37 w37 ⟨rfl, rfl⟩
        refine W.neqI rfl rfl rfl ?_
        refine W.eqv (bF (by decide)) ?_
        refine W.nil ?_
        refine At.thenCode ?_
        refine C.condF rfl ?_
        refine C.skip ?_
        refine At.thenCode ?_
        refine C.seq ?_
        refine C.region ?_
        refine W.assign rfl rfl ?_
        refine W.nil ?_
        refine At.thenCode ?_
        refine C.block ?_
        refine C.loop (X := Nat × (List Int) × Nat) (fun x_ => [(0, .int .i64 n), (4, .slice (some ⟨gc, 0, none⟩) m m), (5, .int .i64 (g : Int)), (6, .slice ao33 (setL (g : Int) n).length c33), (8, .int .i64 (x_.1 : Int))]) (fun x_ w2 => Ext w w2 ∧ x_.1 ≤ (setL (g : Int) n).length ∧ x_.2.2 ≤ q + x_.1 ∧ Cnt x_.2.1 m (fun c => hits n g c + (if c ∈ (setL (g : Int) n).take x_.1 then 1 else 0)) x_.2.2 ∧ World.ownsRow w2 w.heap.size 3 1 (.slice (some ⟨gc, 0, none⟩) m m) m (x_.2.1.map (.int .i64)) ∧ Zs w2 ao33 c33 (setL (g : Int) n)) (fun x_ => (setL (g : Int) n).length - x_.1) (0, xs, q) (Sub.cons (rfl) (Sub.cons (rfl) (Sub.cons (rfl) (Sub.cons (rfl) (Sub.cons (rfl) (Sub.nil)))))) ?start2 ?_
        case start2 =>
          show Ext w _ ∧ (0) ≤ (setL (g : Int) n).length ∧ (q) ≤ q + (0) ∧ Cnt (xs) m (fun c => hits n g c + (if c ∈ (setL (g : Int) n).take (0) then 1 else 0)) (q) ∧ World.ownsRow _ w.heap.size 3 1 (.slice (some ⟨gc, 0, none⟩) m m) m ((xs).map (.int .i64)) ∧ Zs _ ao33 c33 (setL (g : Int) n)
          exact ⟨hX33', by omega, by omega, ⟨hC1.1, fun i h => by have := hC1.2 i h; simpa using this⟩, hO33, hS33⟩
        rintro ⟨i, ys, p⟩ w2 hI_
        replace hI_ : Ext w w2 ∧ i ≤ (setL (g : Int) n).length ∧ p ≤ q + i ∧ Cnt ys m (fun c => hits n g c + (if c ∈ (setL (g : Int) n).take i then 1 else 0)) p ∧ World.ownsRow w2 w.heap.size 3 1 (.slice (some ⟨gc, 0, none⟩) m m) m (ys.map (.int .i64)) ∧ Zs w2 ao33 c33 (setL (g : Int) n) := hI_
        obtain ⟨hX2, hi, hp, hC2, hO2, hS2⟩ := hI_
        refine C.weaken (l' := [(0, .int .i64 n), (4, .slice (some ⟨gc, 0, none⟩) m m), (5, .int .i64 (g : Int)), (6, .slice ao33 (setL (g : Int) n).length c33), (8, .int .i64 (i : Int))]) (Sub.cons (rfl) (Sub.cons (rfl) (Sub.cons (rfl) (Sub.cons (rfl) (Sub.cons (rfl) (Sub.nil)))))) ?_
        refine C.seq ?_
        refine C.seq ?_
        refine C.region ?_
        refine W.move rfl rfl ?_
        refine W.move rfl rfl ?_
        refine W.lenS rfl Try.underlying22 rfl ?_
        refine W.lssI rfl rfl rfl ?_
        refine W.nil ?_
        refine At.thenCode ?_
        first | refine C.condD rfl (fun c42 => ?_) (fun c42 => ?_) | refine C.cond rfl (fun c42 => ?_) (fun c42 => ?_)
        · have hlt : i < (setL (g : Int) n).length := by omega
          obtain ⟨x, hx⟩ : ∃ x, x = (setL (g : Int) n)[i]'hlt := ⟨_, rfl⟩
          have hxr : 0 ≤ x ∧ x < n := hrg x (by rw [hx]; exact List.getElem_mem hlt)
          obtain ⟨cx, hcx⟩ : ∃ cx : Nat, x = (cx : Int) := ⟨x.toNat, by omega⟩
          have hgx : ((setL (g : Int) n).map (.int .i64) : List Value)[i]? = some (.int .i64 x) := by rw [hx]; exact get_z hlt
          have hcl : cx < ys.length := by have := hC2.1; omega
          obtain ⟨y, hy⟩ : ∃ y, y = ys[cx]'hcl := ⟨_, rfl⟩
          have hyb := hC2.2 cx hcl
          rw [← hy] at hyb
          have hgy : (ys.map (.int .i64) : List Value)[cx]? = some (.int .i64 y) := by rw [hy]; exact get_z hcl
          refine C.skip ?_
          refine At.thenCode ?_
          refine C.seq ?_
          refine C.block ?_
          refine C.seq ?_
          refine C.seq ?_
          refine C.region ?_
          refine W.move rfl rfl ?_
          refine W.move rfl rfl ?_
          refine W.indexS (i := (i : Int)) XI Try.underlying22 rfl hS2 rfl ⟨by omega, by omega⟩ rfl ?_
          intro ad47 _ _ hc47
          refine W.load (v := .int .i64 x) rfl Try.underlying3 rfl (by have h := hc47 0 (.int .i64 x) (by rw [List.getElem?_drop, Int.toNat_natCast, Nat.mul_one, Nat.add_zero]; exact hgx); rwa [add_zero'] at h) rfl ?_
          refine W.lssI rfl rfl rfl ?_
          refine W.eqv (bF (by omega)) ?_
          refine W.move rfl rfl ?_
          refine W.wants rfl rfl rfl rfl ?_
          refine W.move rfl rfl ?_
          refine W.wants rfl rfl rfl rfl ?_
          refine W.move rfl rfl ?_
          refine W.wants rfl rfl rfl rfl ?_
          refine W.indexS (i := (i : Int)) XI Try.underlying22 rfl hS2 rfl ⟨by omega, by omega⟩ rfl ?_
          intro ad53 _ _ hc53
          refine W.wants rfl rfl rfl rfl ?_
          refine W.load (v := .int .i64 x) rfl Try.underlying3 rfl (by have h := hc53 0 (.int .i64 x) (by rw [List.getElem?_drop, Int.toNat_natCast, Nat.mul_one, Nat.add_zero]; exact hgx); rwa [add_zero'] at h) rfl ?_
          refine W.wants rfl rfl rfl rfl ?_
          refine W.move rfl rfl ?_
          refine W.wants rfl rfl rfl rfl ?_
          refine W.geqI rfl rfl rfl ?_
          refine W.eqv (bF (by omega)) ?_
          refine W.pickF rfl rfl rfl ?_
          refine W.nil ?_
          refine At.thenCode ?_
          refine C.condF rfl ?_
          refine C.skip ?_
          refine At.thenCode ?_
          refine C.region ?_
          refine W.move rfl rfl ?_
          refine W.move rfl rfl ?_
          refine W.move rfl rfl ?_
          refine W.indexS (i := (i : Int)) XI Try.underlying22 rfl hS2 rfl ⟨by omega, by omega⟩ rfl ?_
          intro ad61 _ _ hc61
          refine W.load (v := .int .i64 x) rfl Try.underlying3 rfl (by have h := hc61 0 (.int .i64 x) (by rw [List.getElem?_drop, Int.toNat_natCast, Nat.mul_one, Nat.add_zero]; exact hgx); rwa [add_zero'] at h) rfl ?_
          refine W.eqv (v' := .int .i64 (cx : Int)) (iV hcx) ?_
          refine W.indexS (i := (cx : Int)) XI Try.underlying22 rfl (own_form hO2) rfl ⟨by omega, by omega⟩ rfl ?_
          intro ad63 _ _ hc63
          refine W.load (v := .int .i64 y) rfl Try.underlying3 rfl (by have h := hc63 0 (.int .i64 y) (by rw [List.getElem?_drop, Int.toNat_natCast, Nat.mul_one, Nat.add_zero]; exact hgy); rwa [add_zero'] at h) rfl ?_
          refine W.addI rfl rfl (by omega) rfl ?_
          refine W.indexS (i := (cx : Int)) XI Try.underlying22 rfl (own_form hO2) rfl ⟨by omega, by omega⟩ rfl ?_
          intro ad66 _ had66 _
          obtain rfl : ad66 = ⟨gc, cx, none⟩ := by rw [had66 _ rfl, add_mk, Int.toNat_natCast, Nat.zero_add, Nat.mul_one]
          refine W.storeO rfl rfl rfl hO2 (by omega) (by kernel_rfl) ?_
          intro w3 hc3 hO3
          rw [← List.map_set] at hO3
          have hS3 : Zs w3 ao33 c33 (setL (g : Int) n) := Sl.chg hS2 hc3 (fun ad e hne => hfr ad e hne)
          refine W.nil ?_
          refine At.blockNormal ?_
          refine At.thenCode ?_
          refine C.region ?_
          refine W.move rfl rfl ?_
          first | refine W.addI rfl rfl (by omega) rfl ?_ | refine W.addW rfl rfl rfl ?_
          refine W.assign rfl rfl ?_
          refine W.nil ?_
          refine At.thenRound (i + 1, ys.set cx (y + 1), p + 1) (Sub.cons (rfl) (Sub.cons (rfl) (Sub.cons (rfl) (Sub.cons (rfl) (Sub.cons (look_eq rfl (iV (by omega))) (Sub.nil)))))) (show Ext w _ ∧ (i + 1) ≤ (setL (g : Int) n).length ∧ (p + 1) ≤ q + (i + 1) ∧ Cnt (ys.set cx (y + 1)) m (fun c => hits n g c + (if c ∈ (setL (g : Int) n).take (i + 1) then 1 else 0)) (p + 1) ∧ World.ownsRow _ w.heap.size 3 1 (.slice (some ⟨gc, 0, none⟩) m m) m ((ys.set cx (y + 1)).map (.int .i64)) ∧ Zs _ ao33 c33 (setL (g : Int) n) from ?_) (show (setL (g : Int) n).length - (i + 1) < (setL (g : Int) n).length - i from ?_)
          · refine ⟨hX2.news hc3 (fun k hk => Or.inr (by omega)), by omega, by omega, ?_, hO3, hS3⟩
            rw [hy]
            refine hC2.bump hcl fun d => ?_
            have htk : d ∈ (setL (g : Int) n).take (i + 1) ↔ (d ∈ (setL (g : Int) n).take i ∨ d = (cx : Int)) := by
              rw [List.take_succ_eq_append_getElem hlt, List.mem_append, List.mem_singleton, ← hx, hcx]
            have e : (if d ∈ (setL (g : Int) n).take (i + 1) then 1 else 0) ≤ (if d ∈ (setL (g : Int) n).take i then 1 else 0) + (if d = (cx : Int) then 1 else 0) := by
              by_cases h0 : d ∈ (setL (g : Int) n).take (i + 1)
              · rw [if_pos h0]
                rcases htk.1 h0 with h | h
                · rw [if_pos h]; omega
                · rw [if_pos h]; omega
              · rw [if_neg h0]; omega
            show hits n g d + (if d ∈ (setL (g : Int) n).take (i + 1) then 1 else 0) ≤ hits n g d + (if d ∈ (setL (g : Int) n).take i then 1 else 0) + (if d = (cx : Int) then 1 else 0)
            omega
          · omega
        · refine C.exit ?_
          refine At.thenExit ?_
          refine At.thenExit ?_
          refine At.blockSelf ?_
          refine At.blockNormal ?_
          refine At.thenCode ?_
          refine C.region ?_
          refine W.move rfl rfl ?_
          first | refine W.addI rfl rfl (by omega) rfl ?_ | refine W.addW rfl rfl rfl ?_
          refine W.assign rfl rfl ?_
          refine W.nil ?_
          refine At.thenRound (g + 1, ys, p) (Sub.cons (rfl) (Sub.cons (rfl) (Sub.cons (look_eq rfl (iV (by omega))) (Sub.nil)))) (show Ext w _ ∧ (g + 1) ≤ sidesN n + 1 ∧ (p) ≤ 1500 * (g + 1) ∧ Cnt (ys) m (hits n (g + 1)) (p) ∧ World.ownsRow _ w.heap.size 3 1 (.slice (some ⟨gc, 0, none⟩) m m) m ((ys).map (.int .i64)) from ?_) (show sidesN n + 1 - (g + 1) < sidesN n + 1 - g from ?_)
          · have hil : i = (setL (g : Int) n).length := by omega
            refine ⟨hX2, by omega, by omega, ?_, hO2⟩
            rw [hil, List.take_length] at hC2
            exact hC2
          · omega
      · obtain rfl : g = sidesN n + 1 := by omega
        refine C.exit ?_
        refine At.thenExit ?_
        refine At.thenExit ?_
        refine At.blockSelf ?_
        refine At.thenCode ?_
        refine C.seq ?_
        refine C.seq ?_
        refine C.region ?_
        refine W.assign rfl rfl ?_
        refine W.nil ?_
        refine At.thenCode ?_
        refine C.block ?_
        refine C.loop (X := Nat) (fun x_ => [(0, .int .i64 n), (4, .slice (some ⟨gc, 0, none⟩) m m), (9, .int .i64 (x_ : Int))]) (fun x_ w3 => w1 = w3 ∧ x_ ≤ m) (fun x_ => m - x_) (0) (Sub.cons (rfl) (Sub.cons (rfl) (Sub.cons (rfl) (Sub.nil)))) ?start3 ?_
        case start3 =>
          show w1 = _ ∧ (0) ≤ m
          exact ⟨rfl, by omega⟩
        rintro i w3 hI_
        replace hI_ : w1 = w3 ∧ i ≤ m := hI_
        obtain ⟨rfl, hi⟩ := hI_
        refine C.weaken (l' := [(0, .int .i64 n), (4, .slice (some ⟨gc, 0, none⟩) m m), (9, .int .i64 (i : Int))]) (Sub.cons (rfl) (Sub.cons (rfl) (Sub.cons (rfl) (Sub.nil)))) ?_
        refine C.seq ?_
        refine C.seq ?_
        refine C.region ?_
        refine W.move rfl rfl ?_
        refine W.move rfl rfl ?_
        refine W.lssI rfl rfl rfl ?_
        refine W.nil ?_
        refine At.thenCode ?_
        first | refine C.condD rfl (fun c69 => ?_) (fun c69 => ?_) | refine C.cond rfl (fun c69 => ?_) (fun c69 => ?_)
        · have hlt : i < xs.length := by have := hC1.1; omega
          obtain ⟨y, hy⟩ : ∃ y, y = xs[i]'hlt := ⟨_, rfl⟩
          have hyb := hC1.2 i hlt
          rw [← hy] at hyb
          have hha := hits_all hok (c := (i : Int)) (by omega) (by omega)
          have hgy : (xs.map (.int .i64) : List Value)[i]? = some (.int .i64 y) := by rw [hy]; exact get_z hlt
          refine C.skip ?_
          refine At.thenCode ?_
          refine C.seq ?_
          refine C.block ?_
          refine C.seq ?_
          refine C.region ?_
          refine W.move rfl rfl ?_
          refine W.move rfl rfl ?_
          refine W.indexS (i := (i : Int)) XI Try.underlying22 rfl (own_form hO1) rfl ⟨by omega, by omega⟩ rfl ?_
          intro ad74 _ _ hc74
          refine W.load (v := .int .i64 y) rfl Try.underlying3 rfl (by have h := hc74 0 (.int .i64 y) (by rw [List.getElem?_drop, Int.toNat_natCast, Nat.mul_one, Nat.add_zero]; exact hgy); rwa [add_zero'] at h) rfl ?_
          refine W.lssI rfl rfl rfl ?_
          refine W.eqv (bF (by omega)) ?_
          refine W.nil ?_
          refine At.thenCode ?_
          refine C.condF rfl ?_
          refine C.skip ?_
          refine At.blockNormal ?_
          refine At.thenCode ?_
          refine C.region ?_
          refine W.move rfl rfl ?_
          first | refine W.addI rfl rfl (by omega) rfl ?_ | refine W.addW rfl rfl rfl ?_
          refine W.assign rfl rfl ?_
          refine W.nil ?_
          refine At.thenRound (i + 1) (Sub.cons (rfl) (Sub.cons (rfl) (Sub.cons (look_eq rfl (iV (by omega))) (Sub.nil)))) (show w1 = _ ∧ (i + 1) ≤ m from ?_) (show m - (i + 1) < m - i from ?_)
          · exact ⟨rfl, by omega⟩
          · omega
        · refine C.exit ?_
          refine At.thenExit ?_
          refine At.thenExit ?_
          refine At.blockSelf ?_
          refine At.thenCode ?_
          refine C.seq ?_
          refine C.region ?_
          refine W.assign rfl rfl ?_
          refine W.nil ?_
          refine At.thenCode ?_
          refine C.ret ?_
          refine At.ret1 Try.results8 rfl ?_
          first | exact ⟨rfl, Ext.below hX1⟩ | exact ⟨rfl, Ext.below hX10⟩
end Go.Proofs.Ytnldohjhjoldaaa.Law15
