/- The walk of chapter 11's law on limits. -/
import Derived.Test.YtpjdkobmcjgcjaaLaw11b
namespace Go.Proofs.Ytpjdkobmcjgcjaa.Law11
open Go Go.RowKit Go.Proofs.Ytpjdkobmcjgcjaa.KW Go.Proofs.Ytpjdkobmcjgcjaa.Words Go.Proofs.Ytpjdkobmcjgcjaa.Grp Go.Proofs.Ytpjdkobmcjgcjaa.Cod
set_option linter.unusedVariables false
set_option linter.unusedSimpArgs false
set_option maxRecDepth 100000
/-- Cells again and again. -/
def repC (n : Nat) (p : List Value) : List Value := (List.replicate n p).flatten
theorem repC_succ (n : Nat) (p : List Value) : repC (n + 1) p = p ++ repC n p := by unfold repC; rw [List.replicate_succ, List.flatten_cons]
theorem repC_snoc (n : Nat) (p : List Value) : repC (n + 1) p = repC n p ++ p := by unfold repC; rw [List.replicate_succ', List.flatten_append]; simp
theorem repC_length (n : Nat) (p : List Value) : (repC n p).length = n * p.length := by
  induction n with
  | zero => simp [repC]
  | succ n ih => rw [repC_succ, List.length_append, ih, Nat.succ_mul]; omega
theorem repC_get {p : List Value} : ∀ (n i : Nat), i < n * p.length → (repC n p)[i]? = p[i % p.length]? := by
  intro n
  induction n with
  | zero => intro i h; simp at h
  | succ n ih =>
    intro i h
    rw [repC_succ]
    by_cases hi : i < p.length
    · rw [List.getElem?_append_left hi, Nat.mod_eq_of_lt hi]
    · rw [List.getElem?_append_right (by omega), ih _ (by rw [Nat.succ_mul] at h; omega)]
      congr 1
      conv => rhs; rw [show i = (i - p.length) + p.length by omega]
      rw [Nat.add_mod_right]
theorem made_rep {z : Value} {n : Nat} {p : List Value} (h : z.cells = p.toArray) (hp : 0 < p.length) : (madeCells z.cells (n * p.length)).toList = repC n p := by
  apply List.ext_getElem?
  intro i
  rw [h]
  by_cases hi : i < n * p.length
  · have hm : i % p.length < p.length := Nat.mod_lt _ hp
    rw [repC_get n i hi]
    simp [madeCells, hi, hm]
  · rw [List.getElem?_eq_none (by simp [madeCells]; omega), List.getElem?_eq_none (by rw [repC_length]; omega)]
theorem repC_part {p : List Value} : ∀ (n i : Nat), i < n → ((repC n p).drop (i * p.length)).take p.length = p := by
  intro n
  induction n with
  | zero => intro i h; omega
  | succ n ih =>
    intro i h
    rw [repC_snoc]
    by_cases hi : i < n
    · rw [part_left (n := n) (repC_length n p) hi]; exact ih i hi
    · obtain rfl : i = n := by omega
      rw [part_right (repC_length i p) (Nat.le_refl _), Nat.sub_self, Nat.zero_mul, List.drop_zero, List.take_of_length_le (Nat.le_refl _)]
theorem Els.rep {α : Type} {R : RdT α} {w : World} {sz n c g : Nat} {p : List Value} {x : α} (hs : Sl w (some ⟨g, 0, none⟩) n c sz (repC n p)) (hp : p.length = sz) (hR : R (fun _ => False) w p x) : Els (fun _ => False) w sz R (some ⟨g, 0, none⟩) c (List.replicate n x) := by
  subst hp
  refine ⟨repC n p, by rw [List.length_replicate]; exact hs, fun _ _ _ h => h, fun i hi => ?_⟩
  rw [List.length_replicate] at hi
  rw [repC_part n i hi, List.getElem_replicate]
  exact hR
theorem Els.cast {α : Type} {R : RdT α} {A : Nat → Prop} {w : World} {sz c : Nat} {a : Option Addr} {xs : List α} (h : Els A w sz R a c xs) : Els A w sz R a c xs := h
theorem ents_rep (n : Nat) : entsE (List.replicate n (1, [])) = if 1000 < n then 3 else 0 := by
  unfold entsE
  have hl : ¬ longE (List.replicate n (1, [])) := by
    rintro ⟨p, hp, h⟩
    obtain ⟨_, rfl⟩ := List.mem_replicate.1 hp
    simp at h
  have hw : ¬ wrongE (List.replicate n (1, [])) := by
    rintro ⟨p, hp, h⟩
    obtain ⟨hn, rfl⟩ := List.mem_replicate.1 hp
    have hsz : sizeE (List.replicate n ((1, []) : Ent)) = 0 := by
      cases n with
      | zero => exact absurd rfl hn
      | succ n => rfl
    rw [hsz] at h
    rcases h with h | h
    · exact h rfl
    · exact h ⟨by decide, by decide⟩
  rw [List.length_replicate]
  by_cases h : 1000 < n
  · rw [if_pos (Or.inl h), if_pos h]
  · rw [if_neg (by rintro (h' | h'); exact h h'; exact hl h'), if_neg hw, if_neg h]
theorem bat_repI (n : Nat) : batE ⟨0, 0, List.replicate n 0, []⟩ = if 20 < n then 3 else 0 := by
  unfold batE
  have hl : ¬ longL ([] : List Let) := by rintro ⟨p, hp, _⟩; cases hp
  have hw : ¬ wrongL ([] : List Let) := by rintro ⟨p, hp, _⟩; cases hp
  by_cases h : 20 < n
  · rw [if_pos (Or.inl (by rw [List.length_replicate]; exact h)), if_pos h]
  · rw [if_neg (by
      rintro (h' | h' | h')
      · rw [List.length_replicate] at h'; exact h h'
      · simp at h'
      · exact hl h'), if_neg (by
      rintro (h' | h' | h')
      · exact absurd h' (by decide : ¬ (0 : Int) < 0)
      · exact absurd h' (by decide : ¬ (0 : Int) < 0)
      · exact hw h'), if_neg h]
theorem bat_repL (n : Nat) : batE ⟨0, 0, [], List.replicate n (zeros32, [])⟩ = if 1000 < n then 3 else 0 := by
  unfold batE
  have hl : ¬ longL (List.replicate n ((zeros32, []) : Let)) := by
    rintro ⟨p, hp, h⟩
    obtain ⟨_, rfl⟩ := List.mem_replicate.1 hp
    simp at h
  have hw : ¬ wrongL (List.replicate n ((zeros32, []) : Let)) := by
    rintro ⟨p, hp, h⟩
    obtain ⟨hn, rfl⟩ := List.mem_replicate.1 hp
    have hsz : sizeL (List.replicate n ((zeros32, []) : Let)) = 0 := by
      cases n with
      | zero => exact absurd rfl hn
      | succ n => rfl
    rw [hsz] at h
    exact h rfl
  by_cases h : 1000 < n
  · rw [if_pos (Or.inr (Or.inl (by rw [List.length_replicate]; exact h))), if_pos h]
  · rw [if_neg (by
      rintro (h' | h' | h')
      · simp at h'
      · rw [List.length_replicate] at h'; exact h h'
      · exact hl h'), if_neg (by
      rintro (h' | h' | h')
      · exact absurd h' (by decide : ¬ (0 : Int) < 0)
      · exact absurd h' (by decide : ¬ (0 : Int) < 0)
      · exact hw h'), if_neg h]
theorem batOk_of {ns : List Nat} {ls : List Let} (h1 : ∀ y ∈ ns, y < 18446744073709551616) (h2 : ∀ p ∈ ls, p.1.length = 32) : BatOk ⟨0, 0, ns, ls⟩ :=
  ⟨(by decide : (-9223372036854775808 : Int) ≤ 0 ∧ (0 : Int) ≤ 9223372036854775807), (by decide : (-9223372036854775808 : Int) ≤ 0 ∧ (0 : Int) ≤ 9223372036854775807), h1, h2⟩
theorem subOk_of (bx : List UInt8) : SubOk ⟨zeros32, 1, bx, 0, 0, 0, 0⟩ :=
  ⟨rfl, (by decide : (1 : Nat) < 18446744073709551616), (by decide : (0 : Nat) < 18446744073709551616), (by decide : (0 : Nat) < 18446744073709551616), (by decide : (0 : Nat) < 18446744073709551616), (by decide : (0 : Nat) < 18446744073709551616)⟩
theorem rep_all {α : Type} {n : Nat} {x : α} {Q : α → Prop} (h : Q x) : ∀ y ∈ List.replicate n x, Q y := fun y hy => by obtain ⟨_, rfl⟩ := List.mem_replicate.1 hy; exact h
theorem sub_rep (n : Nat) (bx : List UInt8) (h : bx.length = n) : subE ⟨zeros32, 1, bx, 0, 0, 0, 0⟩ = if 1048576 < n then 3 else 0 := by
  unfold subE
  simp only [h]
  by_cases h : 1048576 < n
  · rw [if_pos h, if_pos h]
  · rw [if_neg h, if_pos ⟨by decide, by decide⟩, if_neg h]
theorem own_sl {w : World} {base e sz n c : Nat} {ao : Option Addr} {cs : List Value} (h : w.ownsRow base e sz (.slice ao n c) n cs) : Sl w ao n c sz cs := by
  obtain ⟨ao1, c1, he1, hS1, _⟩ := ownsRow_form h
  injection he1 with h1 h2 h3
  subst h1; subst h3
  exact hS1
section
variable {P : Program} {N : Nat} {Q : Exit → Act → World → Prop} {l : Env} {w : World} {ops : Array Oper} {rest : List Oper} {ty : TypeId} {pos : String} {aft : Array Edge} {x y : Operand}
/-- A store of one cell into a row that is owned. -/
theorem W.storeOz {t e sz base n c g i : Nat} {u : Value} {cs : List Value} (hx : ev l x = some (.pointer (some ⟨g, i, none⟩))) (hy : ev l y = some u) (hu : u.oneCell' = true) (ho : w.ownsRow base e sz (.slice (some ⟨g, 0, none⟩) n c) n cs) (hi : i < n * sz) (hs : (P.info? t).map (·.size) = some 1)
    (next : ∀ w', Chg (fun k => k = g) w w' → w'.ownsRow base e sz (.slice (some ⟨g, 0, none⟩) n c) n (cs.set i u) → W P N ops Q rest l w') : W P N ops Q (⟨none, .store t x y, ty, pos, aft, none⟩ :: rest) l w := by
  rcases ho.2 with ⟨h0, _⟩ | ⟨g', cap, cur, hv, hb, hg, hnc, hcm, hcs, htake⟩
  · cases h0
  · injection hv with h1 h2 h3
    injection h1 with h1
    injection h1 with h1
    subst h1; subst h3
    have hB : Bk w g cur.toList := ⟨e, by simpa using hg⟩
    have hle : n * sz ≤ c * sz := Nat.mul_le_mul_right _ hnc
    refine W.opSkip (w' := w.setCell ⟨g, i, none⟩ u) rfl rfl (fun a ha => ?_) (next _ (Chg.setCell w g i u) ⟨by rw [List.length_set]; exact ho.1, .inr ⟨g, c, cur.setIfInBounds i u, rfl, hb, heap_setCell_same w g i cur e u hg, hnc, hcm, by rw [Array.size_setIfInBounds]; exact hcs, ?_⟩⟩)
    · have := run_storeAny (P := P) w g i t u [u] cur.toList (by rw [cells_one hu]) hB (by simp; omega) (by simpa using hs) (fun v hv => by simp at hv; subst hv; exact hu)
      simp [execOp, ha.ev hx, ha.ev hy, Instr.storeAt, Instr.sureAddr, this, World.setCells]
    · rw [← htake, Array.toList_setIfInBounds, List.take_set]
end
def E0 : List Value := [u64V 0, .slice none 0 0]
def E1 : List Value := [u64V 1, .slice none 0 0]
theorem ent_set {i n : Nat} (h : i < n) : (repC i E1 ++ repC (n - i) E0).set (i * 2) (u64V 1) = repC (i + 1) E1 ++ repC (n - (i + 1)) E0 := by
  have hl : (repC i E1).length = i * 2 := repC_length i E1
  rw [List.set_append_right _ _ (by omega), hl, Nat.sub_self, show n - i = (n - (i + 1)) + 1 by omega, repC_succ, repC_snoc, List.append_assoc]
  rfl
def L0 : List Value := Z32 ++ [Value.slice none 0 0]
theorem CodecLimits_walk (k more : Int) (w : World) (hk : -9223372036854775808 ≤ k ∧ k ≤ 9223372036854775807) (hm : -9223372036854775808 ≤ more ∧ more ≤ 9223372036854775807) :
    Ct Try.prog 8 #[.int .i64 k, .int .i64 more] w (LawOk w) := by
  refine Ct.enter [(0, .int .i64 k), (1, .int .i64 more)] Try.func8 rfl rfl rfl rfl ?_
  refine C.seq ?_
  refine C.region ?_
  refine W.assign rfl rfl ?_
  refine W.nil ?_
  refine At.thenCode ?_
  refine C.seq ?_
  refine C.region ?_
  refine W.call Try.call10 rfl (Law11.alive_ok _) rfl ?_
  rintro v10 w10 ⟨rfl, hX10⟩
  refine W.assign rfl rfl ?_
  refine W.nil ?_
  refine At.thenCode ?_
  refine C.seq ?_
  refine C.seq ?_
  refine C.region ?_
  refine W.move rfl rfl ?_
  first | refine W.notD rfl rfl ?_ | refine W.notB rfl rfl ?_
  refine W.move rfl rfl ?_
  refine W.wants rfl rfl rfl rfl ?_
  refine W.move rfl rfl ?_
  refine W.wants rfl rfl rfl rfl ?_
  refine W.lssI rfl rfl rfl ?_
  refine W.pickF rfl rfl rfl ?_
  refine W.move rfl rfl ?_
  first | refine W.splitD (fun g17 => ?_) (fun g17 => ?_) | refine W.splitB (fun g17 => ?_) (fun g17 => ?_)
  · refine W.skips rfl rfl rfl rfl rfl rfl ?_
    refine W.skips rfl rfl rfl rfl rfl rfl ?_
    refine W.pickT rfl rfl rfl ?_
    refine W.move rfl rfl ?_
    refine W.skips rfl rfl rfl rfl rfl rfl ?_
    refine W.skips rfl rfl rfl rfl rfl rfl ?_
    refine W.pickT rfl rfl rfl ?_
    refine W.move rfl rfl ?_
    refine W.skips rfl rfl rfl rfl rfl rfl ?_
    refine W.skips rfl rfl rfl rfl rfl rfl ?_
    refine W.pickT rfl rfl rfl ?_
    refine W.nil ?_
    refine At.thenCode ?_
    refine C.condT rfl ?_
    refine C.seq ?_
    refine C.region ?_
    refine W.move rfl rfl ?_
    refine W.assign rfl rfl ?_
    refine W.nil ?_
    refine At.thenCode ?_
    refine C.ret ?_
    refine At.thenRet ?_
    refine At.ret1 Try.results8 rfl ?_
    first
    | exact ⟨rfl, Ext.below ((hX10.ext hXl).ext hX57)⟩
    | exact ⟨rfl, Ext.below ((hX10.ext hX65).ext hX67)⟩
    | exact ⟨rfl, Ext.below ((hX10.ext hX75).ext hX77)⟩
    | exact ⟨rfl, Ext.below ((hX10.ext hX34).ext hX37)⟩
    | exact ⟨rfl, Ext.below hX10⟩
  · refine W.wants rfl rfl rfl rfl ?_
    refine W.move rfl rfl ?_
    refine W.wants rfl rfl rfl rfl ?_
    refine W.gtrI rfl rfl rfl ?_
    refine W.pickF rfl rfl rfl ?_
    refine W.move rfl rfl ?_
    first | refine W.splitD (fun g21 => ?_) (fun g21 => ?_) | refine W.splitB (fun g21 => ?_) (fun g21 => ?_)
    · refine W.skips rfl rfl rfl rfl rfl rfl ?_
      refine W.skips rfl rfl rfl rfl rfl rfl ?_
      refine W.pickT rfl rfl rfl ?_
      refine W.move rfl rfl ?_
      refine W.skips rfl rfl rfl rfl rfl rfl ?_
      refine W.skips rfl rfl rfl rfl rfl rfl ?_
      refine W.pickT rfl rfl rfl ?_
      refine W.nil ?_
      refine At.thenCode ?_
      refine C.condT rfl ?_
      refine C.seq ?_
      refine C.region ?_
      refine W.move rfl rfl ?_
      refine W.assign rfl rfl ?_
      refine W.nil ?_
      refine At.thenCode ?_
      refine C.ret ?_
      refine At.thenRet ?_
      refine At.ret1 Try.results8 rfl ?_
      first
      | exact ⟨rfl, Ext.below ((hX10.ext hXl).ext hX57)⟩
      | exact ⟨rfl, Ext.below ((hX10.ext hX65).ext hX67)⟩
      | exact ⟨rfl, Ext.below ((hX10.ext hX75).ext hX77)⟩
      | exact ⟨rfl, Ext.below ((hX10.ext hX34).ext hX37)⟩
      | exact ⟨rfl, Ext.below hX10⟩
    · refine W.wants rfl rfl rfl rfl ?_
      refine W.move rfl rfl ?_
      refine W.wants rfl rfl rfl rfl ?_
      refine W.lssI rfl rfl rfl ?_
      refine W.pickF rfl rfl rfl ?_
      refine W.move rfl rfl ?_
      first | refine W.splitD (fun g25 => ?_) (fun g25 => ?_) | refine W.splitB (fun g25 => ?_) (fun g25 => ?_)
      · refine W.skips rfl rfl rfl rfl rfl rfl ?_
        refine W.skips rfl rfl rfl rfl rfl rfl ?_
        refine W.pickT rfl rfl rfl ?_
        refine W.nil ?_
        refine At.thenCode ?_
        refine C.condT rfl ?_
        refine C.seq ?_
        refine C.region ?_
        refine W.move rfl rfl ?_
        refine W.assign rfl rfl ?_
        refine W.nil ?_
        refine At.thenCode ?_
        refine C.ret ?_
        refine At.thenRet ?_
        refine At.ret1 Try.results8 rfl ?_
        first
        | exact ⟨rfl, Ext.below ((hX10.ext hXl).ext hX57)⟩
        | exact ⟨rfl, Ext.below ((hX10.ext hX65).ext hX67)⟩
        | exact ⟨rfl, Ext.below ((hX10.ext hX75).ext hX77)⟩
        | exact ⟨rfl, Ext.below ((hX10.ext hX34).ext hX37)⟩
        | exact ⟨rfl, Ext.below hX10⟩
      · refine W.wants rfl rfl rfl rfl ?_
        refine W.move rfl rfl ?_
        refine W.wants rfl rfl rfl rfl ?_
        refine W.gtrI rfl rfl rfl ?_
        refine W.pickF rfl rfl rfl ?_
        refine W.nil ?_
        refine At.thenCode ?_
        first | refine C.condD rfl (fun c28 => ?_) (fun c28 => ?_) | refine C.cond rfl (fun c28 => ?_) (fun c28 => ?_)
        · refine C.seq ?_
          refine C.region ?_
          refine W.move rfl rfl ?_
          refine W.assign rfl rfl ?_
          refine W.nil ?_
          refine At.thenCode ?_
          refine C.ret ?_
          refine At.thenRet ?_
          refine At.ret1 Try.results8 rfl ?_
          first
          | exact ⟨rfl, Ext.below ((hX10.ext hXl).ext hX57)⟩
          | exact ⟨rfl, Ext.below ((hX10.ext hX65).ext hX67)⟩
          | exact ⟨rfl, Ext.below ((hX10.ext hX75).ext hX77)⟩
          | exact ⟨rfl, Ext.below ((hX10.ext hX34).ext hX37)⟩
          | exact ⟨rfl, Ext.below hX10⟩
        · -- known too
          have hk3 : 0 ≤ k ∧ k ≤ 3 := by omega
          have hm1 : -1 ≤ more ∧ more ≤ 1 := by omega
          refine C.skip ?_
          refine At.thenCode ?_
          refine C.seq ?_
          refine C.region ?_
          refine W.assign rfl rfl ?_
          refine W.nil ?_
          refine At.thenCode ?_
          refine C.seq ?_
          refine C.seq ?_
          refine C.region ?_
          refine W.move rfl rfl ?_
          refine W.nil ?_
          refine At.thenCode ?_
          refine C.block ?_
          refine C.seq ?_
          refine C.region ?_
          refine W.eqlI rfl rfl rfl ?_
          refine W.assign rfl rfl ?_
          refine W.nil ?_
          refine At.thenCode ?_
          first | refine C.condD rfl (fun c40 => ?_) (fun c40 => ?_) | refine C.cond rfl (fun c40 => ?_) (fun c40 => ?_)
          · obtain ⟨n, hn⟩ : ∃ n : Nat, (n : Int) = 1000 + more := ⟨(1000 + more).toNat, by omega⟩
            have hnb : 999 ≤ n ∧ n ≤ 1001 := by omega
            refine C.seq ?_
            refine C.region ?_
            refine W.move rfl rfl ?_
            first | refine W.addI rfl rfl (by omega) rfl ?_ | refine W.addW rfl rfl rfl ?_
            refine W.make (n := n) EEnt Try.underlying49 rfl rfl (by omega) (by omega) (by omega) (by omega) rfl ?_
            intro g44 w44 hg44 hX44 hO44
            have hO44 : w44.ownsRow w10.heap.size 36 2 (.slice (some ⟨g44, 0, none⟩) n n) n (repC 0 E1 ++ repC (n - 0) E0) := by
              have := made_rep (z := .agg #[.int .u64 0, .slice none 0 0]) (n := n) (p := E0) rfl (by decide)
              rw [show (repC 0 E1 ++ repC (n - 0) E0) = repC n E0 from by simp [repC]]
              rw [← this]; exact hO44
            refine W.assign rfl rfl ?_
            refine W.nil ?_
            refine At.thenCode ?_
            refine C.seq ?_
            refine C.seq ?_
            refine C.region ?_
            refine W.assign rfl rfl ?_
            refine W.nil ?_
            refine At.thenCode ?_
            refine C.block ?_
            refine C.loop (X := Nat) (fun x_ => [(1, .int .i64 more), (7, .slice (some ⟨g44, 0, none⟩) n n), (8, .int .i64 (x_ : Int))]) (fun x_ wl => x_ ≤ n ∧ Ext w10 wl ∧ World.ownsRow wl w10.heap.size 36 2 (.slice (some ⟨g44, 0, none⟩) n n) n (repC x_ E1 ++ repC (n - x_) E0)) (fun x_ => n - x_) (0) (Sub.cons (rfl) (Sub.cons (rfl) (Sub.cons (rfl) (Sub.nil)))) ?start1 ?_
            case start1 =>
              show (0) ≤ n ∧ Ext w10 _ ∧ World.ownsRow _ w10.heap.size 36 2 (.slice (some ⟨g44, 0, none⟩) n n) n (repC (0) E1 ++ repC (n - (0)) E0)
              exact ⟨by omega, hX44, hO44⟩
            rintro i wl hI_
            replace hI_ : i ≤ n ∧ Ext w10 wl ∧ World.ownsRow wl w10.heap.size 36 2 (.slice (some ⟨g44, 0, none⟩) n n) n (repC i E1 ++ repC (n - i) E0) := hI_
            obtain ⟨hi, hXl, hOl⟩ := hI_
            refine C.weaken (l' := [(1, .int .i64 more), (7, .slice (some ⟨g44, 0, none⟩) n n), (8, .int .i64 (i : Int))]) (Sub.cons (rfl) (Sub.cons (rfl) (Sub.cons (rfl) (Sub.nil)))) ?_
            refine C.seq ?_
            refine C.seq ?_
            refine C.region ?_
            refine W.move rfl rfl ?_
            refine W.move rfl rfl ?_
            refine W.lenS rfl Try.underlying49 rfl ?_
            refine W.lssI rfl rfl rfl ?_
            refine W.nil ?_
            refine At.thenCode ?_
            first | refine C.condD rfl (fun c48 => ?_) (fun c48 => ?_) | refine C.cond rfl (fun c48 => ?_) (fun c48 => ?_)
            · have hlt : i < n := by omega
              refine C.skip ?_
              refine At.thenCode ?_
              refine C.seq ?_
              refine C.block ?_
              refine C.region ?_
              refine W.move rfl rfl ?_
              refine W.move rfl rfl ?_
              refine W.indexS (i := (i : Int)) EEnt Try.underlying49 rfl (own_sl hOl) rfl ⟨by omega, by omega⟩ rfl ?_
              intro ad53 _ had53 _
              obtain rfl : ad53 = ⟨g44, i * 2, none⟩ := by rw [had53 _ rfl, add_mk, Int.toNat_natCast, Nat.zero_add]
              refine W.fieldB (off := 0) (size := 1) (t := 22) (Fld.of (by kernel_rfl)) rfl rfl rfl ?_
              refine W.storeOz (u := u64V 1) rfl rfl rfl hOl (by omega) (by kernel_rfl) ?_
              intro w54 hc54 hO54
              have hO54 : w54.ownsRow w10.heap.size 36 2 (.slice (some ⟨g44, 0, none⟩) n n) n (repC (i + 1) E1 ++ repC (n - (i + 1)) E0) := by
                rw [← ent_set hlt]; exact hO54
              refine W.nil ?_
              refine At.blockNormal ?_
              refine At.thenCode ?_
              refine C.region ?_
              refine W.move rfl rfl ?_
              first | refine W.addI rfl rfl (by omega) rfl ?_ | refine W.addW rfl rfl rfl ?_
              refine W.assign rfl rfl ?_
              refine W.nil ?_
              refine At.thenRound (i + 1) (Sub.cons (rfl) (Sub.cons (rfl) (Sub.cons (look_eq rfl (iV (by omega))) (Sub.nil)))) (show (i + 1) ≤ n ∧ Ext w10 _ ∧ World.ownsRow _ w10.heap.size 36 2 (.slice (some ⟨g44, 0, none⟩) n n) n (repC (i + 1) E1 ++ repC (n - (i + 1)) E0) from ?_) (show n - (i + 1) < n - i from ?_)
              · exact ⟨by omega, hXl.news hc54 fun q hq => Or.inr (by omega), hO54⟩
              · omega
            · obtain rfl : i = n := by omega
              have hOn : wl.ownsRow w10.heap.size 36 2 (.slice (some ⟨g44, 0, none⟩) i i) i (repC i E1) := by
                have : repC i E1 ++ repC (i - i) E0 = repC i E1 := by rw [Nat.sub_self]; simp [repC]
                rw [← this]; exact hOl
              refine C.exit ?_
              refine At.thenExit ?_
              refine At.thenExit ?_
              refine At.blockSelf ?_
              refine At.thenCode ?_
              refine C.region ?_
              refine W.move rfl rfl ?_
              have hEr := Els.rep (R := REnt) (p := E1) (x := (1, [])) (own_sl hOn) rfl ⟨_, rfl, ⟨none, 0, rfl, Sl.none _ _, fun _ _ _ h => h⟩, by decide⟩
              have hct := Cod.Entries_ok (some ⟨g44, 0, none⟩) i (List.replicate i (1, [])) wl hEr (by rw [List.length_replicate]; omega) (fun p hp => by obtain ⟨_, rfl⟩ := List.mem_replicate.1 hp; simp)
              rw [List.length_replicate, ents_rep] at hct
              refine W.call Try.call28 rfl hct rfl ?_
              rintro v57 w57 ⟨ao57, c57, rfl, _, hX57⟩
              refine W.move rfl rfl ?_
              refine W.extract rfl rfl rfl ?_
              refine W.extract rfl rfl rfl ?_
              refine W.assign rfl rfl ?_
              refine W.nil ?_
              refine At.blockNormal ?_
              refine At.thenCode ?_
              refine C.seq ?_
              refine C.region ?_
              refine W.assign rfl rfl ?_
              refine W.nil ?_
              refine At.thenCode ?_
              refine C.seq ?_
              refine C.seq ?_
              refine C.region ?_
              refine W.move rfl rfl ?_
              refine W.gtrI rfl rfl rfl ?_
              refine W.nil ?_
              refine At.thenCode ?_
              first | refine C.condD rfl (fun c81 => ?_) (fun c81 => ?_) | refine C.cond rfl (fun c81 => ?_) (fun c81 => ?_)
              · refine C.region ?_
                refine W.assign rfl rfl ?_
                refine W.nil ?_
                refine At.thenCode ?_
                refine C.seq ?_
                refine C.region ?_
                refine W.move rfl rfl ?_
                refine W.call Try.call14 rfl (Law11.num_ok _ _) rfl ?_
                rintro v83 w83 ⟨rfl, rfl⟩
                refine W.move rfl rfl ?_
                refine W.eqlI rfl rfl rfl ?_
                refine W.eqv (bT (by split <;> omega)) ?_
                refine W.assign rfl rfl ?_
                refine W.nil ?_
                refine At.thenCode ?_
                refine C.ret ?_
                refine At.ret1 Try.results8 rfl ?_
                first
                | exact ⟨rfl, Ext.below ((hX10.ext hXl).ext hX57)⟩
                | exact ⟨rfl, Ext.below ((hX10.ext hX65).ext hX67)⟩
                | exact ⟨rfl, Ext.below ((hX10.ext hX75).ext hX77)⟩
                | exact ⟨rfl, Ext.below ((hX10.ext hX34).ext hX37)⟩
                | exact ⟨rfl, Ext.below hX10⟩
              · refine C.skip ?_
                refine At.thenCode ?_
                refine C.seq ?_
                refine C.region ?_
                refine W.move rfl rfl ?_
                refine W.call Try.call14 rfl (Law11.num_ok _ _) rfl ?_
                rintro v83 w83 ⟨rfl, rfl⟩
                refine W.move rfl rfl ?_
                refine W.eqlI rfl rfl rfl ?_
                refine W.eqv (bT (by split <;> omega)) ?_
                refine W.assign rfl rfl ?_
                refine W.nil ?_
                refine At.thenCode ?_
                refine C.ret ?_
                refine At.ret1 Try.results8 rfl ?_
                first
                | exact ⟨rfl, Ext.below ((hX10.ext hXl).ext hX57)⟩
                | exact ⟨rfl, Ext.below ((hX10.ext hX65).ext hX67)⟩
                | exact ⟨rfl, Ext.below ((hX10.ext hX75).ext hX77)⟩
                | exact ⟨rfl, Ext.below ((hX10.ext hX34).ext hX37)⟩
                | exact ⟨rfl, Ext.below hX10⟩
          · refine C.seq ?_
            refine C.region ?_
            refine W.eqlI rfl rfl rfl ?_
            refine W.assign rfl rfl ?_
            refine W.nil ?_
            refine At.thenCode ?_
            first | refine C.condD rfl (fun c60 => ?_) (fun c60 => ?_) | refine C.cond rfl (fun c60 => ?_) (fun c60 => ?_)
            · obtain ⟨n, hn⟩ : ∃ n : Nat, (n : Int) = 20 + more := ⟨(20 + more).toNat, by omega⟩
              have hnb : 19 ≤ n ∧ n ≤ 21 := by omega
              refine C.region ?_
              refine W.move rfl rfl ?_
              first | refine W.addI rfl rfl (by omega) rfl ?_ | refine W.addW rfl rfl rfl ?_
              refine W.make1 (k := n) U64 rfl Try.underlying57 rfl rfl (by omega) (by omega) (by omega) (by omega) rfl ?_
              intro g65 w65 hg65 hX65 hO65
              have hs65 := own_sl hO65
              refine W.buildS (fs := _) [(0, 1), (1, 1), (2, 1), (3, 1)] (batC ⟨0, 0, List.replicate n 0, []⟩ (.slice (some ⟨g65, 0, none⟩) n n) (.slice none 0 0)) zeroBatC Try.underlying60 (by kernel_rfl) (by kernel_rfl) rfl rfl rfl ?_
              have hct := Cod.Batch_ok ⟨0, 0, List.replicate n 0, []⟩ (.slice (some ⟨g65, 0, none⟩) n n) (.slice none 0 0) _ ⟨some ⟨g65, 0, none⟩, n, by rw [List.length_replicate], by show Sl _ _ (List.replicate n 0).length _ _ _; rw [List.length_replicate, List.map_replicate]; exact hs65, fun _ _ _ h => h, fun x hx => by obtain ⟨_, rfl⟩ := List.mem_replicate.1 hx; decide⟩ ⟨none, 0, rfl, Els.nil _ _ _ _⟩ (batOk_of (rep_all (by decide)) (fun x hx => by cases hx)) (by rw [List.length_replicate]; omega) (Nat.zero_le _) (fun p hp => by cases hp)
              rw [bat_repI] at hct
              refine W.call Try.call31 rfl hct rfl ?_
              rintro v67 w67 ⟨ao67, c67, rfl, _, hX67⟩
              refine W.move rfl rfl ?_
              refine W.extract rfl rfl rfl ?_
              refine W.extract rfl rfl rfl ?_
              refine W.assign rfl rfl ?_
              refine W.nil ?_
              refine At.blockNormal ?_
              refine At.thenCode ?_
              refine C.seq ?_
              refine C.region ?_
              refine W.assign rfl rfl ?_
              refine W.nil ?_
              refine At.thenCode ?_
              refine C.seq ?_
              refine C.seq ?_
              refine C.region ?_
              refine W.move rfl rfl ?_
              refine W.gtrI rfl rfl rfl ?_
              refine W.nil ?_
              refine At.thenCode ?_
              first | refine C.condD rfl (fun c81 => ?_) (fun c81 => ?_) | refine C.cond rfl (fun c81 => ?_) (fun c81 => ?_)
              · refine C.region ?_
                refine W.assign rfl rfl ?_
                refine W.nil ?_
                refine At.thenCode ?_
                refine C.seq ?_
                refine C.region ?_
                refine W.move rfl rfl ?_
                refine W.call Try.call14 rfl (Law11.num_ok _ _) rfl ?_
                rintro v83 w83 ⟨rfl, rfl⟩
                refine W.move rfl rfl ?_
                refine W.eqlI rfl rfl rfl ?_
                refine W.eqv (bT (by split <;> omega)) ?_
                refine W.assign rfl rfl ?_
                refine W.nil ?_
                refine At.thenCode ?_
                refine C.ret ?_
                refine At.ret1 Try.results8 rfl ?_
                first
                | exact ⟨rfl, Ext.below ((hX10.ext hXl).ext hX57)⟩
                | exact ⟨rfl, Ext.below ((hX10.ext hX65).ext hX67)⟩
                | exact ⟨rfl, Ext.below ((hX10.ext hX75).ext hX77)⟩
                | exact ⟨rfl, Ext.below ((hX10.ext hX34).ext hX37)⟩
                | exact ⟨rfl, Ext.below hX10⟩
              · refine C.skip ?_
                refine At.thenCode ?_
                refine C.seq ?_
                refine C.region ?_
                refine W.move rfl rfl ?_
                refine W.call Try.call14 rfl (Law11.num_ok _ _) rfl ?_
                rintro v83 w83 ⟨rfl, rfl⟩
                refine W.move rfl rfl ?_
                refine W.eqlI rfl rfl rfl ?_
                refine W.eqv (bT (by split <;> omega)) ?_
                refine W.assign rfl rfl ?_
                refine W.nil ?_
                refine At.thenCode ?_
                refine C.ret ?_
                refine At.ret1 Try.results8 rfl ?_
                first
                | exact ⟨rfl, Ext.below ((hX10.ext hXl).ext hX57)⟩
                | exact ⟨rfl, Ext.below ((hX10.ext hX65).ext hX67)⟩
                | exact ⟨rfl, Ext.below ((hX10.ext hX75).ext hX77)⟩
                | exact ⟨rfl, Ext.below ((hX10.ext hX34).ext hX37)⟩
                | exact ⟨rfl, Ext.below hX10⟩
            · refine C.seq ?_
              refine C.region ?_
              refine W.eqlI rfl rfl rfl ?_
              refine W.assign rfl rfl ?_
              refine W.nil ?_
              refine At.thenCode ?_
              first | refine C.condD rfl (fun c70 => ?_) (fun c70 => ?_) | refine C.cond rfl (fun c70 => ?_) (fun c70 => ?_)
              · obtain ⟨n, hn⟩ : ∃ n : Nat, (n : Int) = 1000 + more := ⟨(1000 + more).toNat, by omega⟩
                have hnb : 999 ≤ n ∧ n ≤ 1001 := by omega
                refine C.region ?_
                refine W.move rfl rfl ?_
                first | refine W.addI rfl rfl (by omega) rfl ?_ | refine W.addW rfl rfl rfl ?_
                refine W.make (n := n) ELet Try.underlying58 rfl rfl (by omega) (by omega) (by omega) (by omega) rfl ?_
                intro g75 w75 hg75 hX75 hO75
                have hs75 : Sl w75 (some ⟨g75, 0, none⟩) n n 33 (repC n L0) := by
                  have := made_rep (z := .agg (List.replicate 32 (byteV 0) ++ [Value.slice none 0 0]).toArray) (n := n) (p := L0) rfl (by decide)
                  rw [← this]; exact own_sl hO75
                have hEr := Els.rep (R := RLet) (p := L0) (x := (zeros32, [])) hs75 rfl ⟨_, rfl, ⟨none, 0, rfl, Sl.none _ _, fun _ _ _ h => h⟩, rfl⟩
                refine W.buildS (fs := _) [(0, 1), (1, 1), (2, 1), (3, 1)] (batC ⟨0, 0, [], List.replicate n (zeros32, [])⟩ (.slice none 0 0) (.slice (some ⟨g75, 0, none⟩) n n)) zeroBatC Try.underlying60 (by kernel_rfl) (by kernel_rfl) rfl rfl rfl ?_
                have hct := Cod.Batch_ok ⟨0, 0, [], List.replicate n (zeros32, [])⟩ (.slice none 0 0) (.slice (some ⟨g75, 0, none⟩) n n) _ ⟨none, 0, rfl, Sl.none _ _, fun _ _ _ h => h, fun x hx => by cases hx⟩ ⟨some ⟨g75, 0, none⟩, n, by rw [List.length_replicate], hEr⟩ (batOk_of (fun x hx => by cases hx) (rep_all rfl)) (Nat.zero_le _) (by rw [List.length_replicate]; omega) (fun p hp => by obtain ⟨_, rfl⟩ := List.mem_replicate.1 hp; simp)
                rw [bat_repL] at hct
                refine W.call Try.call31 rfl hct rfl ?_
                rintro v77 w77 ⟨ao77, c77, rfl, _, hX77⟩
                refine W.move rfl rfl ?_
                refine W.extract rfl rfl rfl ?_
                refine W.extract rfl rfl rfl ?_
                refine W.assign rfl rfl ?_
                refine W.nil ?_
                refine At.blockNormal ?_
                refine At.thenCode ?_
                refine C.seq ?_
                refine C.region ?_
                refine W.assign rfl rfl ?_
                refine W.nil ?_
                refine At.thenCode ?_
                refine C.seq ?_
                refine C.seq ?_
                refine C.region ?_
                refine W.move rfl rfl ?_
                refine W.gtrI rfl rfl rfl ?_
                refine W.nil ?_
                refine At.thenCode ?_
                first | refine C.condD rfl (fun c81 => ?_) (fun c81 => ?_) | refine C.cond rfl (fun c81 => ?_) (fun c81 => ?_)
                · refine C.region ?_
                  refine W.assign rfl rfl ?_
                  refine W.nil ?_
                  refine At.thenCode ?_
                  refine C.seq ?_
                  refine C.region ?_
                  refine W.move rfl rfl ?_
                  refine W.call Try.call14 rfl (Law11.num_ok _ _) rfl ?_
                  rintro v83 w83 ⟨rfl, rfl⟩
                  refine W.move rfl rfl ?_
                  refine W.eqlI rfl rfl rfl ?_
                  refine W.eqv (bT (by split <;> omega)) ?_
                  refine W.assign rfl rfl ?_
                  refine W.nil ?_
                  refine At.thenCode ?_
                  refine C.ret ?_
                  refine At.ret1 Try.results8 rfl ?_
                  first
                  | exact ⟨rfl, Ext.below ((hX10.ext hXl).ext hX57)⟩
                  | exact ⟨rfl, Ext.below ((hX10.ext hX65).ext hX67)⟩
                  | exact ⟨rfl, Ext.below ((hX10.ext hX75).ext hX77)⟩
                  | exact ⟨rfl, Ext.below ((hX10.ext hX34).ext hX37)⟩
                  | exact ⟨rfl, Ext.below hX10⟩
                · refine C.skip ?_
                  refine At.thenCode ?_
                  refine C.seq ?_
                  refine C.region ?_
                  refine W.move rfl rfl ?_
                  refine W.call Try.call14 rfl (Law11.num_ok _ _) rfl ?_
                  rintro v83 w83 ⟨rfl, rfl⟩
                  refine W.move rfl rfl ?_
                  refine W.eqlI rfl rfl rfl ?_
                  refine W.eqv (bT (by split <;> omega)) ?_
                  refine W.assign rfl rfl ?_
                  refine W.nil ?_
                  refine At.thenCode ?_
                  refine C.ret ?_
                  refine At.ret1 Try.results8 rfl ?_
                  first
                  | exact ⟨rfl, Ext.below ((hX10.ext hXl).ext hX57)⟩
                  | exact ⟨rfl, Ext.below ((hX10.ext hX65).ext hX67)⟩
                  | exact ⟨rfl, Ext.below ((hX10.ext hX75).ext hX77)⟩
                  | exact ⟨rfl, Ext.below ((hX10.ext hX34).ext hX37)⟩
                  | exact ⟨rfl, Ext.below hX10⟩
              · obtain ⟨n, hn⟩ : ∃ n : Nat, (n : Int) = 1048576 + more := ⟨(1048576 + more).toNat, by omega⟩
                have hnb : 1048575 ≤ n ∧ n ≤ 1048577 := by omega
                refine C.region ?_
                refine W.move rfl rfl ?_
                first | refine W.addI rfl rfl (by omega) rfl ?_ | refine W.addW rfl rfl rfl ?_
                refine W.makeB (k := n) E8 Try.underlying27 rfl rfl (by omega) (by omega) (by omega) (by omega) rfl ?_
                intro g34 w34 hg34 hX34 hO34
                have hs34 := own_sl hO34
                obtain ⟨bx, hbx⟩ : ∃ bx, bx = List.replicate n (0 : UInt8) := ⟨_, rfl⟩
                have hbl : bx.length = n := by rw [hbx, List.length_replicate]
                rw [← hbx] at hs34
                refine W.buildS (fs := _) [(0, 1), (1, 1)] [u64V 1, .slice (some ⟨g34, 0, none⟩) n n] [.int .u64 0, .slice none 0 0] Try.underlying36 (by kernel_rfl) (by kernel_rfl) rfl rfl rfl ?_
                refine W.buildS (fs := _) [(0, 32), (32, 2), (34, 2), (36, 2)] (subC ⟨zeros32, 1, bx, 0, 0, 0, 0⟩ (.slice (some ⟨g34, 0, none⟩) n n)) zeroSubC Try.underlying40 (by kernel_rfl) (by kernel_rfl) rfl rfl rfl ?_
                have hYb : RByt (fun _ => False) w34 [.slice (some ⟨g34, 0, none⟩) n n] bx := ⟨some ⟨g34, 0, none⟩, n, by rw [hbl], by show Sl _ _ _ _ _ _; rw [hbl]; exact hs34, fun _ _ _ h => h⟩
                have hso := subOk_of bx
                have hct := Cod.Submission_ok ⟨zeros32, 1, bx, 0, 0, 0, 0⟩ (.slice (some ⟨g34, 0, none⟩) n n) _ ⟨_, rfl, hYb, hso⟩ hYb hso (by show bx.length ≤ _; omega)
                rw [sub_rep n bx hbl] at hct
                refine W.call Try.call15 rfl hct rfl ?_
                rintro v37 w37 ⟨ao37, c37, rfl, _, hX37⟩
                refine W.move rfl rfl ?_
                refine W.extract rfl rfl rfl ?_
                refine W.extract rfl rfl rfl ?_
                refine W.assign rfl rfl ?_
                refine W.nil ?_
                refine At.blockNormal ?_
                refine At.thenCode ?_
                refine C.seq ?_
                refine C.region ?_
                refine W.assign rfl rfl ?_
                refine W.nil ?_
                refine At.thenCode ?_
                refine C.seq ?_
                refine C.seq ?_
                refine C.region ?_
                refine W.move rfl rfl ?_
                refine W.gtrI rfl rfl rfl ?_
                refine W.nil ?_
                refine At.thenCode ?_
                first | refine C.condD rfl (fun c81 => ?_) (fun c81 => ?_) | refine C.cond rfl (fun c81 => ?_) (fun c81 => ?_)
                · refine C.region ?_
                  refine W.assign rfl rfl ?_
                  refine W.nil ?_
                  refine At.thenCode ?_
                  refine C.seq ?_
                  refine C.region ?_
                  refine W.move rfl rfl ?_
                  refine W.call Try.call14 rfl (Law11.num_ok _ _) rfl ?_
                  rintro v83 w83 ⟨rfl, rfl⟩
                  refine W.move rfl rfl ?_
                  refine W.eqlI rfl rfl rfl ?_
                  refine W.eqv (bT (by split <;> omega)) ?_
                  refine W.assign rfl rfl ?_
                  refine W.nil ?_
                  refine At.thenCode ?_
                  refine C.ret ?_
                  refine At.ret1 Try.results8 rfl ?_
                  first
                  | exact ⟨rfl, Ext.below ((hX10.ext hXl).ext hX57)⟩
                  | exact ⟨rfl, Ext.below ((hX10.ext hX65).ext hX67)⟩
                  | exact ⟨rfl, Ext.below ((hX10.ext hX75).ext hX77)⟩
                  | exact ⟨rfl, Ext.below ((hX10.ext hX34).ext hX37)⟩
                  | exact ⟨rfl, Ext.below hX10⟩
                · refine C.skip ?_
                  refine At.thenCode ?_
                  refine C.seq ?_
                  refine C.region ?_
                  refine W.move rfl rfl ?_
                  refine W.call Try.call14 rfl (Law11.num_ok _ _) rfl ?_
                  rintro v83 w83 ⟨rfl, rfl⟩
                  refine W.move rfl rfl ?_
                  refine W.eqlI rfl rfl rfl ?_
                  refine W.eqv (bT (by split <;> omega)) ?_
                  refine W.assign rfl rfl ?_
                  refine W.nil ?_
                  refine At.thenCode ?_
                  refine C.ret ?_
                  refine At.ret1 Try.results8 rfl ?_
                  first
                  | exact ⟨rfl, Ext.below ((hX10.ext hXl).ext hX57)⟩
                  | exact ⟨rfl, Ext.below ((hX10.ext hX65).ext hX67)⟩
                  | exact ⟨rfl, Ext.below ((hX10.ext hX75).ext hX77)⟩
                  | exact ⟨rfl, Ext.below ((hX10.ext hX34).ext hX37)⟩
                  | exact ⟨rfl, Ext.below hX10⟩
end Go.Proofs.Ytpjdkobmcjgcjaa.Law11
