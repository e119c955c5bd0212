/- Package codec's functions that write. -/
import Derived.Test.YthiijdbiikljpaaCodD
namespace Go.Proofs.Ythiijdbiikljpaa.Cod
open Go Go.RowKit Go.Proofs.Ythiijdbiikljpaa.KW Go.Proofs.Ythiijdbiikljpaa.Words Go.Proofs.Ythiijdbiikljpaa.Grp
set_option linter.unusedVariables false
set_option linter.unusedSimpArgs false
set_option maxRecDepth 100000
def lenE (most : Nat) (L : List Nat) : Nat := if most < L.length ∨ ∃ k ∈ L, 1048576 < k then 3 else 0
def lenF (most : Nat) (L : List Nat) : Nat := if lenE most L = 0 then L.headD 0 else 0
def lenA (most : Nat) (L : List Nat) : Bool := if lenE most L = 0 then L.all (· == L.headD 0) else false
theorem lengths_ok (most : Nat) (L : List Nat) (fv : Value) (w : World) (hf : FvNat Try.prog fv L w) (hm : most ≤ 1000000) (hL : L.length ≤ 9223372036854775807) (hLm : ∀ k ∈ L, k ≤ 9223372036854775807) :
    Ct Try.prog 49 #[.int .i64 (L.length : Int), .int .i64 (most : Int), fv] w (fun v w' => v = .tuple #[.int .i64 (lenF most L : Int), .bool (lenA most L), .int .i64 (lenE most L : Int)] ∧ w = w') := by
  obtain ⟨f, caps, rfl, hcall, hct⟩ := hf.out
  refine Ct.enter [(0, .int .i64 (L.length : Int)), (1, .int .i64 (most : Int)), (2, .func (.func f) #[] caps)] Try.func49 rfl rfl rfl rfl ?_
  refine C.seq ?_
  refine C.region ?_
  refine W.assign rfl rfl ?_
  refine W.assign rfl rfl ?_
  refine W.assign rfl rfl ?_
  refine W.nil ?_
  refine At.thenCode ?_
  refine C.seq ?_
  refine C.seq ?_
  refine C.region ?_
  refine W.move rfl rfl ?_
  refine W.move rfl rfl ?_
  refine W.gtrI rfl rfl rfl ?_
  refine W.nil ?_
  refine At.thenCode ?_
  first | refine C.condD rfl (fun c15 => ?_) (fun c15 => ?_) | refine C.cond rfl (fun c15 => ?_) (fun c15 => ?_)
  · refine C.seq ?_
    refine C.region ?_
    refine W.assign rfl rfl ?_
    refine W.assign rfl rfl ?_
    refine W.assign rfl rfl ?_
    refine W.nil ?_
    refine At.thenCode ?_
    refine C.ret ?_
    refine At.thenRet ?_
    refine At.ret3 Try.results49 rfl rfl rfl ?_
    have e : lenE most L = 3 := by unfold lenE; rw [if_pos (Or.inl (by omega))]
    exact ⟨by unfold lenF lenA; rw [e]; rfl, rfl⟩
  · refine C.skip ?_
    refine At.thenCode ?_
    refine C.seq ?_
    refine C.region ?_
    refine W.assign rfl rfl ?_
    refine W.assign rfl rfl ?_
    refine W.nil ?_
    refine At.thenCode ?_
    refine C.seq ?_
    refine C.seq ?_
    refine C.region ?_
    refine W.move rfl rfl ?_
    refine W.move rfl rfl ?_
    refine W.nil ?_
    refine At.thenCode ?_
    refine C.block ?_
    refine C.loop (X := Nat × Nat × Bool) (fun x_ => [(0, .int .i64 (L.length : Int)), (1, .int .i64 (most : Int)), (2, .func (.func f) #[] caps), (9, .int .i64 (x_.2.1 : Int)), (10, .bool x_.2.2), (16, .int .i64 (L.length : Int)), (17, .int .i64 (x_.1 : Int))]) (fun x_ w1 => w = w1 ∧ x_.1 ≤ L.length ∧ x_.2.1 = (if x_.1 = 0 then 0 else L.headD 0) ∧ x_.2.2 = (L.take x_.1).all (· == L.headD 0) ∧ (∀ k ∈ L.take x_.1, k ≤ 1048576)) (fun x_ => L.length - x_.1) (0, 0, true) (Sub.cons (rfl) (Sub.cons (rfl) (Sub.cons (rfl) (Sub.cons (rfl) (Sub.cons (rfl) (Sub.cons (rfl) (Sub.cons (rfl) (Sub.nil)))))))) ?start1 ?_
    case start1 =>
      show w = _ ∧ (0) ≤ L.length ∧ (0) = (if (0) = 0 then 0 else L.headD 0) ∧ (true) = (L.take (0)).all (· == L.headD 0) ∧ (∀ k ∈ L.take (0), k ≤ 1048576)
      exact ⟨rfl, by omega, by simp, by simp, by simp⟩
    rintro ⟨i, q, a⟩ w1 hI_
    replace hI_ : w = w1 ∧ i ≤ L.length ∧ q = (if i = 0 then 0 else L.headD 0) ∧ a = (L.take i).all (· == L.headD 0) ∧ (∀ k ∈ L.take i, k ≤ 1048576) := hI_
    obtain ⟨rfl, hi, hq, ha, hk⟩ := hI_
    refine C.weaken (l' := [(0, .int .i64 (L.length : Int)), (1, .int .i64 (most : Int)), (2, .func (.func f) #[] caps), (9, .int .i64 (q : Int)), (10, .bool a), (16, .int .i64 (L.length : Int)), (17, .int .i64 (i : Int))]) (Sub.cons (rfl) (Sub.cons (rfl) (Sub.cons (rfl) (Sub.cons (rfl) (Sub.cons (rfl) (Sub.cons (rfl) (Sub.cons (rfl) (Sub.nil)))))))) ?_
    refine C.seq ?_
    refine C.region ?_
    refine W.lssI rfl rfl rfl ?_
    refine W.nil ?_
    refine At.thenCode ?_
    refine C.seq ?_
    first | refine C.condD rfl (fun c18 => ?_) (fun c18 => ?_) | refine C.cond rfl (fun c18 => ?_) (fun c18 => ?_)
    · have hlt : i < L.length := by omega
      refine C.skip ?_
      refine At.thenCode ?_
      refine C.seq ?_
      refine C.block ?_
      refine C.seq ?_
      refine C.region ?_
      refine W.move rfl rfl ?_
      refine W.assign rfl rfl ?_
      refine W.nil ?_
      refine At.thenCode ?_
      refine C.seq ?_
      refine C.region ?_
      refine W.move rfl rfl ?_
      refine W.move rfl rfl ?_
      refine W.callV (caps := caps.toList) hcall (look_eq rfl (by simp)) rfl (hct i hlt) rfl ?_
      rintro v22 w22 ⟨rfl, rfl⟩
      refine W.assign rfl rfl ?_
      refine W.nil ?_
      refine At.thenCode ?_
      refine C.seq ?_
      refine C.seq ?_
      refine C.region ?_
      refine W.move rfl rfl ?_
      refine W.gtrI rfl rfl rfl ?_
      refine W.nil ?_
      refine At.thenCode ?_
      first | refine C.condD rfl (fun c24 => ?_) (fun c24 => ?_) | refine C.cond rfl (fun c24 => ?_) (fun c24 => ?_)
      · refine C.seq ?_
        refine C.region ?_
        refine W.assign rfl rfl ?_
        refine W.assign rfl rfl ?_
        refine W.assign rfl rfl ?_
        refine W.nil ?_
        refine At.thenCode ?_
        refine C.ret ?_
        refine At.thenRet ?_
        refine At.blockRet ?_
        refine At.thenRet ?_
        refine At.thenRet ?_
        refine At.blockRet ?_
        refine At.thenRet ?_
        refine At.ret3 Try.results49 rfl rfl rfl ?_
        have e : lenE most L = 3 := by unfold lenE; rw [if_pos (Or.inr ⟨L[i], List.getElem_mem hlt, by omega⟩)]
        exact ⟨by unfold lenF lenA; rw [e]; rfl, rfl⟩
      · have hki : L[i] ≤ 1048576 := by omega
        have hts := List.take_succ_eq_append_getElem hlt
        have hk' : ∀ k ∈ L.take (i + 1), k ≤ 1048576 := by
          intro k hkk
          rw [hts] at hkk
          rcases List.mem_append.1 hkk with h | h
          · exact hk k h
          · obtain rfl := List.mem_singleton.1 h; exact hki
        have hall : (L.take (i + 1)).all (· == L.headD 0) = (a && (L[i] == L.headD 0)) := by rw [hts, List.all_append, ← ha]; simp
        refine C.skip ?_
        refine At.thenCode ?_
        refine C.seq ?_
        refine C.seq ?_
        refine C.region ?_
        refine W.move rfl rfl ?_
        refine W.eqlI rfl rfl rfl ?_
        refine W.nil ?_
        refine At.thenCode ?_
        first | refine C.condD rfl (fun c26 => ?_) (fun c26 => ?_) | refine C.cond rfl (fun c26 => ?_) (fun c26 => ?_)
        · have hi0 : i = 0 := by omega
          have hh : L[i] = L.headD 0 := by
            subst hi0
            cases L with
            | nil => simp at hlt
            | cons x r => rfl
          have ha1 : a = true := by rw [ha, hi0]; rfl
          refine C.region ?_
          refine W.move rfl rfl ?_
          refine W.assign rfl rfl ?_
          refine W.nil ?_
          refine At.thenCode ?_
          refine C.region ?_
          refine W.move rfl rfl ?_
          refine W.move rfl rfl ?_
          first | refine W.splitD (fun g29 => ?_) (fun g29 => ?_) | refine W.splitB (fun g29 => ?_) (fun g29 => ?_)
          · refine W.wants rfl rfl rfl rfl ?_
            refine W.move rfl rfl ?_
            refine W.wants rfl rfl rfl rfl ?_
            refine W.move rfl rfl ?_
            refine W.wants rfl rfl rfl rfl ?_
            refine W.eqlI rfl rfl rfl ?_
            refine W.pickT rfl rfl rfl ?_
            refine W.assign rfl rfl ?_
            refine W.nil ?_
            refine At.blockNormal ?_
            refine At.thenCode ?_
            refine C.region ?_
            first | refine W.addI rfl rfl (by omega) rfl ?_ | refine W.addW rfl rfl rfl ?_
            refine W.move rfl rfl ?_
            refine W.nil ?_
            refine At.thenRound (i + 1, L.headD 0, (L.take (i + 1)).all (· == L.headD 0)) (Sub.cons (rfl) (Sub.cons (rfl) (Sub.cons (rfl) (Sub.cons (look_eq rfl (iV (congrArg (fun n : Nat => (n : Int)) hh))) (Sub.cons (look_eq rfl (by rw [hall, ha1, Bool.true_and]; congr 1; rw [Bool.eq_iff_iff]; simp [hh])) (Sub.cons (rfl) (Sub.cons (look_eq rfl (iV (by omega))) (Sub.nil)))))))) (show w = _ ∧ (i + 1) ≤ L.length ∧ (L.headD 0) = (if (i + 1) = 0 then 0 else L.headD 0) ∧ ((L.take (i + 1)).all (· == L.headD 0)) = (L.take (i + 1)).all (· == L.headD 0) ∧ (∀ k ∈ L.take (i + 1), k ≤ 1048576) from ?_) (show L.length - (i + 1) < L.length - i from ?_)
            · exact ⟨rfl, by omega, by simp, rfl, hk'⟩
            · omega
          · refine W.skips rfl rfl rfl rfl rfl rfl ?_
            refine W.skips rfl rfl rfl rfl rfl rfl ?_
            refine W.skips rfl rfl rfl rfl rfl rfl ?_
            refine W.pickF rfl rfl rfl ?_
            refine W.assign rfl rfl ?_
            refine W.nil ?_
            refine At.blockNormal ?_
            refine At.thenCode ?_
            refine C.region ?_
            first | refine W.addI rfl rfl (by omega) rfl ?_ | refine W.addW rfl rfl rfl ?_
            refine W.move rfl rfl ?_
            refine W.nil ?_
            refine At.thenRound (i + 1, L.headD 0, (L.take (i + 1)).all (· == L.headD 0)) (Sub.cons (rfl) (Sub.cons (rfl) (Sub.cons (rfl) (Sub.cons (look_eq rfl (iV (congrArg (fun n : Nat => (n : Int)) hh))) (Sub.cons (look_eq rfl (by exfalso; simp_all)) (Sub.cons (rfl) (Sub.cons (look_eq rfl (iV (by omega))) (Sub.nil)))))))) (show w = _ ∧ (i + 1) ≤ L.length ∧ (L.headD 0) = (if (i + 1) = 0 then 0 else L.headD 0) ∧ ((L.take (i + 1)).all (· == L.headD 0)) = (L.take (i + 1)).all (· == L.headD 0) ∧ (∀ k ∈ L.take (i + 1), k ≤ 1048576) from ?_) (show L.length - (i + 1) < L.length - i from ?_)
            · exact ⟨rfl, by omega, by simp, rfl, hk'⟩
            · omega
        · have hq' : q = L.headD 0 := by rw [hq, if_neg (by omega)]
          refine C.skip ?_
          refine At.thenCode ?_
          refine C.region ?_
          refine W.move rfl rfl ?_
          refine W.move rfl rfl ?_
          first | refine W.splitD (fun g29 => ?_) (fun g29 => ?_) | refine W.splitB (fun g29 => ?_) (fun g29 => ?_)
          · refine W.wants rfl rfl rfl rfl ?_
            refine W.move rfl rfl ?_
            refine W.wants rfl rfl rfl rfl ?_
            refine W.move rfl rfl ?_
            refine W.wants rfl rfl rfl rfl ?_
            refine W.eqlI rfl rfl rfl ?_
            refine W.pickT rfl rfl rfl ?_
            refine W.assign rfl rfl ?_
            refine W.nil ?_
            refine At.blockNormal ?_
            refine At.thenCode ?_
            refine C.region ?_
            first | refine W.addI rfl rfl (by omega) rfl ?_ | refine W.addW rfl rfl rfl ?_
            refine W.move rfl rfl ?_
            refine W.nil ?_
            refine At.thenRound (i + 1, L.headD 0, (L.take (i + 1)).all (· == L.headD 0)) (Sub.cons (rfl) (Sub.cons (rfl) (Sub.cons (rfl) (Sub.cons (look_eq rfl (iV (congrArg (fun n : Nat => (n : Int)) hq'))) (Sub.cons (look_eq rfl (by rw [hall, g29, Bool.true_and]; congr 1; rw [Bool.eq_iff_iff, hq']; simp; omega)) (Sub.cons (rfl) (Sub.cons (look_eq rfl (iV (by omega))) (Sub.nil)))))))) (show w = _ ∧ (i + 1) ≤ L.length ∧ (L.headD 0) = (if (i + 1) = 0 then 0 else L.headD 0) ∧ ((L.take (i + 1)).all (· == L.headD 0)) = (L.take (i + 1)).all (· == L.headD 0) ∧ (∀ k ∈ L.take (i + 1), k ≤ 1048576) from ?_) (show L.length - (i + 1) < L.length - i from ?_)
            · exact ⟨rfl, by omega, by simp, rfl, hk'⟩
            · omega
          · refine W.skips rfl rfl rfl rfl rfl rfl ?_
            refine W.skips rfl rfl rfl rfl rfl rfl ?_
            refine W.skips rfl rfl rfl rfl rfl rfl ?_
            refine W.pickF rfl rfl rfl ?_
            refine W.assign rfl rfl ?_
            refine W.nil ?_
            refine At.blockNormal ?_
            refine At.thenCode ?_
            refine C.region ?_
            first | refine W.addI rfl rfl (by omega) rfl ?_ | refine W.addW rfl rfl rfl ?_
            refine W.move rfl rfl ?_
            refine W.nil ?_
            refine At.thenRound (i + 1, L.headD 0, (L.take (i + 1)).all (· == L.headD 0)) (Sub.cons (rfl) (Sub.cons (rfl) (Sub.cons (rfl) (Sub.cons (look_eq rfl (iV (congrArg (fun n : Nat => (n : Int)) hq'))) (Sub.cons (look_eq rfl (by rw [hall, g29]; rfl)) (Sub.cons (rfl) (Sub.cons (look_eq rfl (iV (by omega))) (Sub.nil)))))))) (show w = _ ∧ (i + 1) ≤ L.length ∧ (L.headD 0) = (if (i + 1) = 0 then 0 else L.headD 0) ∧ ((L.take (i + 1)).all (· == L.headD 0)) = (L.take (i + 1)).all (· == L.headD 0) ∧ (∀ k ∈ L.take (i + 1), k ≤ 1048576) from ?_) (show L.length - (i + 1) < L.length - i from ?_)
            · exact ⟨rfl, by omega, by simp, rfl, hk'⟩
            · omega
    · refine C.exit ?_
      refine At.thenExit ?_
      refine At.thenExit ?_
      refine At.blockSelf ?_
      refine At.thenCode ?_
      refine C.seq ?_
      refine C.region ?_
      refine W.move rfl rfl ?_
      refine W.move rfl rfl ?_
      refine W.assign rfl rfl ?_
      refine W.assign rfl rfl ?_
      refine W.assign rfl rfl ?_
      refine W.nil ?_
      refine At.thenCode ?_
      refine C.ret ?_
      refine At.ret3 Try.results49 rfl rfl rfl ?_
      obtain rfl : i = L.length := by omega
      rw [List.take_length] at ha hk
      have e : lenE most L = 0 := by
        unfold lenE
        rw [if_neg]
        rintro (h | ⟨k, h1, h2⟩)
        · omega
        · have := hk k h1; omega
      have hqf : q = L.headD 0 := by
        rw [hq]; split
        · rename_i h; rw [List.eq_nil_of_length_eq_zero h]; rfl
        · rfl
      refine ⟨?_, rfl⟩
      unfold lenF lenA
      rw [e, if_pos rfl, if_pos rfl, hqf, ← ha]
      rfl

/-! ### entries -/
theorem ents_lens (es : List Ent) : (lenE 1000 (es.map (·.2.length)) = if 1000 < es.length ∨ longE es then 3 else 0) ∧ (es.map (·.2.length)).headD 0 = sizeE es ∧ ((es.map (·.2.length)).all (· == sizeE es) = true ↔ ∀ p ∈ es, p.2.length = sizeE es) := by
  refine ⟨?_, ?_, ?_⟩
  · unfold lenE
    rw [List.length_map]
    have : (∃ k ∈ es.map (·.2.length), 1048576 < k) ↔ longE es := by
      unfold longE
      constructor
      · rintro ⟨k, hk, h⟩
        obtain ⟨p, hp, rfl⟩ := List.mem_map.1 hk
        exact ⟨p, hp, h⟩
      · rintro ⟨p, hp, h⟩
        exact ⟨_, List.mem_map.2 ⟨p, hp, rfl⟩, h⟩
    simp only [this]
  · cases es with
    | nil => rfl
    | cons p r => rfl
  · simp
theorem Els.get {α : Type} {R : RdT α} {A : Nat → Prop} {w : World} {sz c : Nat} {a : Option Addr} {xs : List α} (h : Els A w sz R a c xs) {i : Nat} (hi : i < xs.length) : ∃ cs, R A w cs (xs[i]'hi) := by
  obtain ⟨es, _, _, he⟩ := h
  exact ⟨_, he i hi⟩
theorem box_len {w : World} {A : Nat → Prop} {v : Value} {b : List UInt8} (h : RByt A w [v] b) (hc : ∀ a n c, v = .slice a n c → c ≤ 9223372036854775807) : b.length ≤ 9223372036854775807 := by
  obtain ⟨a, c, rfl, hs, _⟩ := h.form
  exact Nat.le_trans hs.le (hc _ _ _ rfl)
end Go.Proofs.Ythiijdbiikljpaa.Cod
