/- Package codec's functions that write. -/
import Derived.Test.YtpjdkobmcjgcjaaCodD
namespace Go.Proofs.Ytpjdkobmcjgcjaa.Cod
open Go Go.RowKit Go.Proofs.Ytpjdkobmcjgcjaa.KW Go.Proofs.Ytpjdkobmcjgcjaa.Words Go.Proofs.Ytpjdkobmcjgcjaa.Grp
set_option linter.unusedVariables false
set_option linter.unusedSimpArgs false
set_option maxRecDepth 100000
def lenE (most : Nat) (L : List Nat) : Nat := if most < L.length ∨ ∃ k ∈ L, 1048576 < k then 3 else 0
def lenF (most : Nat) (L : List Nat) : Nat := if lenE most L = 0 then L.headD 0 else 0
def lenA (most : Nat) (L : List Nat) : Bool := if lenE most L = 0 then L.all (· == L.headD 0) else false
theorem lengths_ok (most : Nat) (L : List Nat) (fv : Value) (w : World) (hf : FvNat Try.prog fv L w) (hm : most ≤ 1000000) (hL : L.length ≤ 9223372036854775807) (hLm : ∀ k ∈ L, k ≤ 9223372036854775807) :
    Ct Try.prog 57 #[.int .i64 (L.length : Int), .int .i64 (most : Int), fv] w (fun v w' => v = .tuple #[.int .i64 (lenF most L : Int), .bool (lenA most L), .int .i64 (lenE most L : Int)] ∧ w = w') := by
  obtain ⟨f, caps, rfl, hcall, hct⟩ := hf.out
  refine Ct.enter [(0, .int .i64 (L.length : Int)), (1, .int .i64 (most : Int)), (2, .func (.func f) #[] caps)] Try.func57 rfl rfl rfl rfl ?_
  refine C.seq ?_
  refine C.region ?_
  refine W.assign rfl rfl ?_
  refine W.assign rfl rfl ?_
  refine W.assign rfl rfl ?_
  refine W.nil ?_
  refine At.thenCode ?_
  refine C.seq ?_
  refine C.seq ?_
  refine C.region ?_
  refine W.move rfl rfl ?_
  refine W.move rfl rfl ?_
  refine W.gtrI rfl rfl rfl ?_
  refine W.nil ?_
  refine At.thenCode ?_
  first | refine C.condD rfl (fun c15 => ?_) (fun c15 => ?_) | refine C.cond rfl (fun c15 => ?_) (fun c15 => ?_)
  · refine C.seq ?_
    refine C.region ?_
    refine W.assign rfl rfl ?_
    refine W.assign rfl rfl ?_
    refine W.assign rfl rfl ?_
    refine W.nil ?_
    refine At.thenCode ?_
    refine C.ret ?_
    refine At.thenRet ?_
    refine At.ret3 Try.results57 rfl rfl rfl ?_
    have e : lenE most L = 3 := by unfold lenE; rw [if_pos (Or.inl (by omega))]
    exact ⟨by unfold lenF lenA; rw [e]; rfl, rfl⟩
  · refine C.skip ?_
    refine At.thenCode ?_
    refine C.seq ?_
    refine C.region ?_
    refine W.assign rfl rfl ?_
    refine W.assign rfl rfl ?_
    refine W.nil ?_
    refine At.thenCode ?_
    refine C.seq ?_
    refine C.seq ?_
    refine C.region ?_
    refine W.move rfl rfl ?_
    refine W.move rfl rfl ?_
    refine W.nil ?_
    refine At.thenCode ?_
    refine C.block ?_
    refine C.loop (X := Nat × Nat × Bool) (fun x_ => [(0, .int .i64 (L.length : Int)), (1, .int .i64 (most : Int)), (2, .func (.func f) #[] caps), (9, .int .i64 (x_.2.1 : Int)), (10, .bool x_.2.2), (16, .int .i64 (L.length : Int)), (17, .int .i64 (x_.1 : Int))]) (fun x_ w1 => w = w1 ∧ x_.1 ≤ L.length ∧ x_.2.1 = (if x_.1 = 0 then 0 else L.headD 0) ∧ x_.2.2 = (L.take x_.1).all (· == L.headD 0) ∧ (∀ k ∈ L.take x_.1, k ≤ 1048576)) (fun x_ => L.length - x_.1) (0, 0, true) (Sub.cons (rfl) (Sub.cons (rfl) (Sub.cons (rfl) (Sub.cons (rfl) (Sub.cons (rfl) (Sub.cons (rfl) (Sub.cons (rfl) (Sub.nil)))))))) ?start1 ?_
    case start1 =>
      show w = _ ∧ (0) ≤ L.length ∧ (0) = (if (0) = 0 then 0 else L.headD 0) ∧ (true) = (L.take (0)).all (· == L.headD 0) ∧ (∀ k ∈ L.take (0), k ≤ 1048576)
      exact ⟨rfl, by omega, by simp, by simp, by simp⟩
    rintro ⟨i, q, a⟩ w1 hI_
    replace hI_ : w = w1 ∧ i ≤ L.length ∧ q = (if i = 0 then 0 else L.headD 0) ∧ a = (L.take i).all (· == L.headD 0) ∧ (∀ k ∈ L.take i, k ≤ 1048576) := hI_
    obtain ⟨rfl, hi, hq, ha, hk⟩ := hI_
    refine C.weaken (l' := [(0, .int .i64 (L.length : Int)), (1, .int .i64 (most : Int)), (2, .func (.func f) #[] caps), (9, .int .i64 (q : Int)), (10, .bool a), (16, .int .i64 (L.length : Int)), (17, .int .i64 (i : Int))]) (Sub.cons (rfl) (Sub.cons (rfl) (Sub.cons (rfl) (Sub.cons (rfl) (Sub.cons (rfl) (Sub.cons (rfl) (Sub.cons (rfl) (Sub.nil)))))))) ?_
    refine C.seq ?_
    refine C.region ?_
    refine W.lssI rfl rfl rfl ?_
    refine W.nil ?_
    refine At.thenCode ?_
    refine C.seq ?_
    first | refine C.condD rfl (fun c18 => ?_) (fun c18 => ?_) | refine C.cond rfl (fun c18 => ?_) (fun c18 => ?_)
    · have hlt : i < L.length := by omega
      refine C.skip ?_
      refine At.thenCode ?_
      refine C.seq ?_
      refine C.block ?_
      refine C.seq ?_
      refine C.region ?_
      refine W.move rfl rfl ?_
      refine W.assign rfl rfl ?_
      refine W.nil ?_
      refine At.thenCode ?_
      refine C.seq ?_
      refine C.region ?_
      refine W.move rfl rfl ?_
      refine W.move rfl rfl ?_
      refine W.callV (caps := caps.toList) hcall (look_eq rfl (by simp)) rfl (hct i hlt) rfl ?_
      rintro v22 w22 ⟨rfl, rfl⟩
      refine W.assign rfl rfl ?_
      refine W.nil ?_
      refine At.thenCode ?_
      refine C.seq ?_
      refine C.seq ?_
      refine C.region ?_
      refine W.move rfl rfl ?_
      refine W.gtrI rfl rfl rfl ?_
      refine W.nil ?_
      refine At.thenCode ?_
      first | refine C.condD rfl (fun c24 => ?_) (fun c24 => ?_) | refine C.cond rfl (fun c24 => ?_) (fun c24 => ?_)
      · refine C.seq ?_
        refine C.region ?_
        refine W.assign rfl rfl ?_
        refine W.assign rfl rfl ?_
        refine W.assign rfl rfl ?_
        refine W.nil ?_
        refine At.thenCode ?_
        refine C.ret ?_
        refine At.thenRet ?_
        refine At.blockRet ?_
        refine At.thenRet ?_
        refine At.thenRet ?_
        refine At.blockRet ?_
        refine At.thenRet ?_
        refine At.ret3 Try.results57 rfl rfl rfl ?_
        have e : lenE most L = 3 := by unfold lenE; rw [if_pos (Or.inr ⟨L[i], List.getElem_mem hlt, by omega⟩)]
        exact ⟨by unfold lenF lenA; rw [e]; rfl, rfl⟩
      · have hki : L[i] ≤ 1048576 := by omega
        have hts := List.take_succ_eq_append_getElem hlt
        have hk' : ∀ k ∈ L.take (i + 1), k ≤ 1048576 := by
          intro k hkk
          rw [hts] at hkk
          rcases List.mem_append.1 hkk with h | h
          · exact hk k h
          · obtain rfl := List.mem_singleton.1 h; exact hki
        have hall : (L.take (i + 1)).all (· == L.headD 0) = (a && (L[i] == L.headD 0)) := by rw [hts, List.all_append, ← ha]; simp
        refine C.skip ?_
        refine At.thenCode ?_
        refine C.seq ?_
        refine C.seq ?_
        refine C.region ?_
        refine W.move rfl rfl ?_
        refine W.eqlI rfl rfl rfl ?_
        refine W.nil ?_
        refine At.thenCode ?_
        first | refine C.condD rfl (fun c26 => ?_) (fun c26 => ?_) | refine C.cond rfl (fun c26 => ?_) (fun c26 => ?_)
        · have hi0 : i = 0 := by omega
          have hh : L[i] = L.headD 0 := by
            subst hi0
            cases L with
            | nil => simp at hlt
            | cons x r => rfl
          have ha1 : a = true := by rw [ha, hi0]; rfl
          refine C.region ?_
          refine W.move rfl rfl ?_
          refine W.assign rfl rfl ?_
          refine W.nil ?_
          refine At.thenCode ?_
          refine C.region ?_
          refine W.move rfl rfl ?_
          refine W.move rfl rfl ?_
          first | refine W.splitD (fun g29 => ?_) (fun g29 => ?_) | refine W.splitB (fun g29 => ?_) (fun g29 => ?_)
          · refine W.wants rfl rfl rfl rfl ?_
            refine W.move rfl rfl ?_
            refine W.wants rfl rfl rfl rfl ?_
            refine W.move rfl rfl ?_
            refine W.wants rfl rfl rfl rfl ?_
            refine W.eqlI rfl rfl rfl ?_
            refine W.pickT rfl rfl rfl ?_
            refine W.assign rfl rfl ?_
            refine W.nil ?_
            refine At.blockNormal ?_
            refine At.thenCode ?_
            refine C.region ?_
            first | refine W.addI rfl rfl (by omega) rfl ?_ | refine W.addW rfl rfl rfl ?_
            refine W.move rfl rfl ?_
            refine W.nil ?_
            refine At.thenRound (i + 1, L.headD 0, (L.take (i + 1)).all (· == L.headD 0)) (Sub.cons (rfl) (Sub.cons (rfl) (Sub.cons (rfl) (Sub.cons (look_eq rfl (iV (congrArg (fun n : Nat => (n : Int)) hh))) (Sub.cons (look_eq rfl (by rw [hall, ha1, Bool.true_and]; congr 1; rw [Bool.eq_iff_iff]; simp [hh])) (Sub.cons (rfl) (Sub.cons (look_eq rfl (iV (by omega))) (Sub.nil)))))))) (show w = _ ∧ (i + 1) ≤ L.length ∧ (L.headD 0) = (if (i + 1) = 0 then 0 else L.headD 0) ∧ ((L.take (i + 1)).all (· == L.headD 0)) = (L.take (i + 1)).all (· == L.headD 0) ∧ (∀ k ∈ L.take (i + 1), k ≤ 1048576) from ?_) (show L.length - (i + 1) < L.length - i from ?_)
            · exact ⟨rfl, by omega, by simp, rfl, hk'⟩
            · omega
          · refine W.skips rfl rfl rfl rfl rfl rfl ?_
            refine W.skips rfl rfl rfl rfl rfl rfl ?_
            refine W.skips rfl rfl rfl rfl rfl rfl ?_
            refine W.pickF rfl rfl rfl ?_
            refine W.assign rfl rfl ?_
            refine W.nil ?_
            refine At.blockNormal ?_
            refine At.thenCode ?_
            refine C.region ?_
            first | refine W.addI rfl rfl (by omega) rfl ?_ | refine W.addW rfl rfl rfl ?_
            refine W.move rfl rfl ?_
            refine W.nil ?_
            refine At.thenRound (i + 1, L.headD 0, (L.take (i + 1)).all (· == L.headD 0)) (Sub.cons (rfl) (Sub.cons (rfl) (Sub.cons (rfl) (Sub.cons (look_eq rfl (iV (congrArg (fun n : Nat => (n : Int)) hh))) (Sub.cons (look_eq rfl (by exfalso; simp_all)) (Sub.cons (rfl) (Sub.cons (look_eq rfl (iV (by omega))) (Sub.nil)))))))) (show w = _ ∧ (i + 1) ≤ L.length ∧ (L.headD 0) = (if (i + 1) = 0 then 0 else L.headD 0) ∧ ((L.take (i + 1)).all (· == L.headD 0)) = (L.take (i + 1)).all (· == L.headD 0) ∧ (∀ k ∈ L.take (i + 1), k ≤ 1048576) from ?_) (show L.length - (i + 1) < L.length - i from ?_)
            · exact ⟨rfl, by omega, by simp, rfl, hk'⟩
            · omega
        · have hq' : q = L.headD 0 := by rw [hq, if_neg (by omega)]
          refine C.skip ?_
          refine At.thenCode ?_
          refine C.region ?_
          refine W.move rfl rfl ?_
          refine W.move rfl rfl ?_
          first | refine W.splitD (fun g29 => ?_) (fun g29 => ?_) | refine W.splitB (fun g29 => ?_) (fun g29 => ?_)
          · refine W.wants rfl rfl rfl rfl ?_
            refine W.move rfl rfl ?_
            refine W.wants rfl rfl rfl rfl ?_
            refine W.move rfl rfl ?_
            refine W.wants rfl rfl rfl rfl ?_
            refine W.eqlI rfl rfl rfl ?_
            refine W.pickT rfl rfl rfl ?_
            refine W.assign rfl rfl ?_
            refine W.nil ?_
            refine At.blockNormal ?_
            refine At.thenCode ?_
            refine C.region ?_
            first | refine W.addI rfl rfl (by omega) rfl ?_ | refine W.addW rfl rfl rfl ?_
            refine W.move rfl rfl ?_
            refine W.nil ?_
            refine At.thenRound (i + 1, L.headD 0, (L.take (i + 1)).all (· == L.headD 0)) (Sub.cons (rfl) (Sub.cons (rfl) (Sub.cons (rfl) (Sub.cons (look_eq rfl (iV (congrArg (fun n : Nat => (n : Int)) hq'))) (Sub.cons (look_eq rfl (by rw [hall, g29, Bool.true_and]; congr 1; rw [Bool.eq_iff_iff, hq']; simp; omega)) (Sub.cons (rfl) (Sub.cons (look_eq rfl (iV (by omega))) (Sub.nil)))))))) (show w = _ ∧ (i + 1) ≤ L.length ∧ (L.headD 0) = (if (i + 1) = 0 then 0 else L.headD 0) ∧ ((L.take (i + 1)).all (· == L.headD 0)) = (L.take (i + 1)).all (· == L.headD 0) ∧ (∀ k ∈ L.take (i + 1), k ≤ 1048576) from ?_) (show L.length - (i + 1) < L.length - i from ?_)
            · exact ⟨rfl, by omega, by simp, rfl, hk'⟩
            · omega
          · refine W.skips rfl rfl rfl rfl rfl rfl ?_
            refine W.skips rfl rfl rfl rfl rfl rfl ?_
            refine W.skips rfl rfl rfl rfl rfl rfl ?_
            refine W.pickF rfl rfl rfl ?_
            refine W.assign rfl rfl ?_
            refine W.nil ?_
            refine At.blockNormal ?_
            refine At.thenCode ?_
            refine C.region ?_
            first | refine W.addI rfl rfl (by omega) rfl ?_ | refine W.addW rfl rfl rfl ?_
            refine W.move rfl rfl ?_
            refine W.nil ?_
            refine At.thenRound (i + 1, L.headD 0, (L.take (i + 1)).all (· == L.headD 0)) (Sub.cons (rfl) (Sub.cons (rfl) (Sub.cons (rfl) (Sub.cons (look_eq rfl (iV (congrArg (fun n : Nat => (n : Int)) hq'))) (Sub.cons (look_eq rfl (by rw [hall, g29]; rfl)) (Sub.cons (rfl) (Sub.cons (look_eq rfl (iV (by omega))) (Sub.nil)))))))) (show w = _ ∧ (i + 1) ≤ L.length ∧ (L.headD 0) = (if (i + 1) = 0 then 0 else L.headD 0) ∧ ((L.take (i + 1)).all (· == L.headD 0)) = (L.take (i + 1)).all (· == L.headD 0) ∧ (∀ k ∈ L.take (i + 1), k ≤ 1048576) from ?_) (show L.length - (i + 1) < L.length - i from ?_)
            · exact ⟨rfl, by omega, by simp, rfl, hk'⟩
            · omega
    · refine C.exit ?_
      refine At.thenExit ?_
      refine At.thenExit ?_
      refine At.blockSelf ?_
      refine At.thenCode ?_
      refine C.seq ?_
      refine C.region ?_
      refine W.move rfl rfl ?_
      refine W.move rfl rfl ?_
      refine W.assign rfl rfl ?_
      refine W.assign rfl rfl ?_
      refine W.assign rfl rfl ?_
      refine W.nil ?_
      refine At.thenCode ?_
      refine C.ret ?_
      refine At.ret3 Try.results57 rfl rfl rfl ?_
      obtain rfl : i = L.length := by omega
      rw [List.take_length] at ha hk
      have e : lenE most L = 0 := by
        unfold lenE
        rw [if_neg]
        rintro (h | ⟨k, h1, h2⟩)
        · omega
        · have := hk k h1; omega
      have hqf : q = L.headD 0 := by
        rw [hq]; split
        · rename_i h; rw [List.eq_nil_of_length_eq_zero h]; rfl
        · rfl
      refine ⟨?_, rfl⟩
      unfold lenF lenA
      rw [e, if_pos rfl, if_pos rfl, hqf, ← ha]
      rfl

/-! ### entries -/
theorem ents_lens (es : List Ent) : (lenE 1000 (es.map (·.2.length)) = if 1000 < es.length ∨ longE es then 3 else 0) ∧ (es.map (·.2.length)).headD 0 = sizeE es ∧ ((es.map (·.2.length)).all (· == sizeE es) = true ↔ ∀ p ∈ es, p.2.length = sizeE es) := by
  refine ⟨?_, ?_, ?_⟩
  · unfold lenE
    rw [List.length_map]
    have : (∃ k ∈ es.map (·.2.length), 1048576 < k) ↔ longE es := by
      unfold longE
      constructor
      · rintro ⟨k, hk, h⟩
        obtain ⟨p, hp, rfl⟩ := List.mem_map.1 hk
        exact ⟨p, hp, h⟩
      · rintro ⟨p, hp, h⟩
        exact ⟨_, List.mem_map.2 ⟨p, hp, rfl⟩, h⟩
    simp only [this]
  · cases es with
    | nil => rfl
    | cons p r => rfl
  · simp
theorem Els.get {α : Type} {R : RdT α} {A : Nat → Prop} {w : World} {sz c : Nat} {a : Option Addr} {xs : List α} (h : Els A w sz R a c xs) {i : Nat} (hi : i < xs.length) : ∃ cs, R A w cs (xs[i]'hi) := by
  obtain ⟨es, _, _, he⟩ := h
  exact ⟨_, he i hi⟩
theorem box_len {w : World} {A : Nat → Prop} {v : Value} {b : List UInt8} (h : RByt A w [v] b) (hc : ∀ a n c, v = .slice a n c → c ≤ 9223372036854775807) : b.length ≤ 9223372036854775807 := by
  obtain ⟨a, c, rfl, hs, _⟩ := h.form
  exact Nat.le_trans hs.le (hc _ _ _ rfl)
theorem Entries1_ok (g : Nat) (ao : Option Addr) (c : Nat) (es : List Ent) (A : Nat → Prop) (i : Nat) (w : World) (hB : Bk w g [.slice ao es.length c]) (hE : Els A w 2 REnt ao c es) (hi : i < es.length) :
    Ct Try.prog 58 #[.int .i64 (i : Int), .pointer (some ⟨g, 0, none⟩)] w (fun v w' => v = .int .i64 ((es[i].2.length : Nat) : Int) ∧ w = w') := by
  refine Ct.enter [(0, .int .i64 (i : Int)), (1, .pointer (some ⟨g, 0, none⟩))] Try.func58 rfl rfl rfl rfl ?_
  refine C.seq ?_
  refine C.region ?_
  refine W.assign rfl rfl ?_
  refine W.nil ?_
  refine At.thenCode ?_
  refine C.seq ?_
  refine C.region ?_
  refine W.loadB rfl Try.underlying49 rfl (by assumption) rfl rfl ?_
  refine W.move rfl rfl ?_
  refine W.indexE EEnt Try.underlying49 rfl hE rfl hi rfl ?_
  rintro ad6 cs6 hc6 ⟨v6, rfl, hR6, hx6⟩ _
  obtain ⟨a6, c6, rfl, hs6, _⟩ := hR6.form
  refine W.fieldAddr (off := 1) (size := 1) (t := 27) (Fld.of (by kernel_rfl)) rfl rfl rfl ?_
  refine W.loadC hc6 rfl rfl Try.underlying27 rfl rfl ?_
  refine W.lenS rfl Try.underlying27 rfl ?_
  refine W.assign rfl rfl ?_
  refine W.nil ?_
  refine At.thenCode ?_
  refine C.ret ?_
  refine At.ret1 Try.results58 rfl ?_
  exact ⟨rfl, rfl⟩
theorem Entries_ok (ao : Option Addr) (c : Nat) (es : List Ent) (w : World) (hE : Els (fun _ => False) w 2 REnt ao c es) (hlen : es.length ≤ 9223372036854775807) (hbox : ∀ p ∈ es, p.2.length ≤ 9223372036854775807) :
    Ct Try.prog 28 #[.slice ao es.length c] w (fun v w' => ∃ ao' c', v = .tuple #[.slice ao' (entsB es).length c', .int .i64 (entsE es : Int)] ∧ NewB w w' ao' c' (entsB es) ∧ Ext w w') := by
  refine Ct.enter [(0, .slice ao es.length c)] Try.func28 rfl rfl rfl rfl ?_
  obtain ⟨hl1, hl2, hl3⟩ := ents_lens es
  have hEb : Els (fun k => w.heap.size ≤ k) w 2 REnt ao c es := hE.new rEnt fun k h1 h2 => by omega
  refine C.seq ?_
  refine C.region ?_
  refine W.box [.slice ao es.length c] rfl rfl rfl ?_
  intro g1 w1 hg1 hX1 hB1
  have hE1 := hE.ext rEnt hX1
  refine W.assign rfl rfl ?_
  refine W.assign rfl rfl ?_
  refine W.nil ?_
  refine At.thenCode ?_
  refine C.seq ?_
  refine C.region ?_
  refine W.loadB rfl Try.underlying49 rfl (by assumption) rfl rfl ?_
  refine W.lenS rfl Try.underlying49 rfl ?_
  refine W.makeFunc rfl rfl ?_
  have hfv : FvNat Try.prog (.func (.func 58) #[] #[.pointer (some ⟨g1, 0, none⟩)]) (es.map (·.2.length)) w1 := by
    refine ⟨_, _, rfl, Try.call58, fun i hi => ?_⟩
    have hi' : i < es.length := by simpa using hi
    have := Entries1_ok g1 ao c es _ i w1 hB1 hE1 hi'
    simpa using this
  have hlc := Cod.lengths_ok 1000 (es.map (·.2.length)) _ w1 hfv (by omega) (by simpa using hlen) (by intro k hk; obtain ⟨p, hp, rfl⟩ := List.mem_map.1 hk; exact hbox p hp)
  rw [List.length_map] at hlc
  refine W.call Try.call57 rfl hlc rfl ?_
  rintro v14 w14 ⟨rfl, rfl⟩
  refine W.move rfl rfl ?_
  refine W.extract rfl rfl rfl ?_
  refine W.extract rfl rfl rfl ?_
  refine W.extract rfl rfl rfl ?_
  refine W.assign rfl rfl ?_
  refine W.assign rfl rfl ?_
  refine W.assign rfl rfl ?_
  refine W.nil ?_
  refine At.thenCode ?_
  refine C.seq ?_
  refine C.seq ?_
  refine C.region ?_
  refine W.move rfl rfl ?_
  refine W.neqI rfl rfl rfl ?_
  refine W.nil ?_
  refine At.thenCode ?_
  first | refine C.condD rfl (fun c19 => ?_) (fun c19 => ?_) | refine C.cond rfl (fun c19 => ?_) (fun c19 => ?_)
  · have he3 : lenE 1000 (es.map (·.2.length)) ≠ 0 := by omega
    have hlong : 1000 < es.length ∨ longE es := by
      by_cases h : 1000 < es.length ∨ longE es
      · exact h
      · rw [if_neg h] at hl1; exact absurd hl1 he3
    rw [if_pos hlong] at hl1
    have hEE : entsE es = 3 := by unfold entsE; rw [if_pos hlong]
    have hEB : entsB es = [] := by unfold entsB; rw [hEE]; rfl
    refine C.seq ?_
    refine C.region ?_
    refine W.move rfl rfl ?_
    refine W.assign rfl rfl ?_
    refine W.assign rfl rfl ?_
    refine W.nil ?_
    refine At.thenCode ?_
    refine C.ret ?_
    refine At.thenRet ?_
    refine At.ret2 Try.results28 rfl rfl ?_
    exact ⟨none, 0, by rw [hEB, hEE, hl1]; rfl, by rw [hEB]; exact NewB.nil _ _, hX1⟩
  · have he0 : lenE 1000 (es.map (·.2.length)) = 0 := by omega
    have hshort : ¬ (1000 < es.length ∨ longE es) := by
      intro h; rw [if_pos h] at hl1; omega
    have hn1000 : es.length ≤ 1000 := by have := fun c => hshort (Or.inl c); omega
    have hbox20 : ∀ p ∈ es, p.2.length ≤ 1048576 := fun p hp => by
      have : ¬ 1048576 < p.2.length := fun c => hshort (Or.inr ⟨p, hp, c⟩)
      omega
    have hlA : lenA 1000 (es.map (·.2.length)) = (es.map (·.2.length)).all (· == sizeE es) := by unfold lenA; rw [if_pos he0, hl2]
    have hlF : lenF 1000 (es.map (·.2.length)) = sizeE es := by unfold lenF; rw [if_pos he0, hl2]
    refine C.skip ?_
    refine At.thenCode ?_
    refine C.seq ?_
    refine C.seq ?_
    refine C.region ?_
    refine W.move rfl rfl ?_
    first | refine W.notD rfl rfl ?_ | refine W.notB rfl rfl ?_
    refine W.nil ?_
    refine At.thenCode ?_
    first | refine C.condD rfl (fun c22 => ?_) (fun c22 => ?_) | refine C.cond rfl (fun c22 => ?_) (fun c22 => ?_)
    · have hwrong : wrongE es := by
        by_cases h : wrongE es
        · exact h
        · have : (es.map (·.2.length)).all (· == sizeE es) = true := hl3.2 fun p hp => by
            by_cases e : p.2.length = sizeE es
            · exact e
            · exact absurd ⟨p, hp, Or.inl e⟩ h
          simp_all
      have hEE : entsE es = 1 := by unfold entsE; rw [if_neg hshort, if_pos hwrong]
      have hEB : entsB es = [] := by unfold entsB; rw [hEE]; rfl
      refine C.seq ?_
      refine C.region ?_
      refine W.assign rfl rfl ?_
      refine W.assign rfl rfl ?_
      refine W.nil ?_
      refine At.thenCode ?_
      refine C.ret ?_
      refine At.thenRet ?_
      refine At.ret2 Try.results28 rfl rfl ?_
      exact ⟨none, 0, by rw [hEB, hEE]; rfl, by rw [hEB]; exact NewB.nil _ _, hX1⟩
    · have hallk : ∀ p ∈ es, p.2.length = sizeE es := hl3.1 (by rw [← hlA]; simpa using c22)
      have hsz20 : sizeE es ≤ 1048576 := by
        cases es with
        | nil => exact Nat.zero_le _
        | cons p r => exact hbox20 p (by simp)
      refine C.skip ?_
      refine At.thenCode ?_
      refine C.seq ?_
      refine C.region ?_
      refine W.buildS (fs := _) [(0, 1)] [.slice none 0 0] [.slice none 0 0] Try.underlying78 (by kernel_rfl) (by kernel_rfl) rfl rfl rfl ?_
      refine W.box [.slice none 0 0] rfl rfl rfl ?_
      intro g24 w24 hg24 hX24 hB24
      have hX24a := hX1.ext hX24
      have hW24 : Wr w24 g24 w.heap.size [] := Wr.mk' (by have := hX1.size; omega) hB24
      have hB1a := hB1.ext hX24
      refine W.assign rfl rfl ?_
      refine W.nil ?_
      refine At.thenCode ?_
      refine C.seq ?_
      refine C.region ?_
      refine W.move rfl rfl ?_
      refine W.loadB rfl Try.underlying49 rfl hB1a rfl rfl ?_
      refine W.lenS rfl Try.underlying49 rfl ?_
      first | refine W.convIN (M := 18446744073709551616) rfl Try.underlying3 Try.underlying22 rfl rfl (by omega) rfl ?_ | refine W.convIU (M := 18446744073709551616) rfl Try.underlying3 Try.underlying22 rfl rfl rfl ?_
      refine W.eqv (v' := u64V es.length) (iV (by omega)) ?_
      refine W.move rfl rfl ?_
      first | refine W.convIN (M := 18446744073709551616) rfl Try.underlying3 Try.underlying22 rfl rfl (by omega) rfl ?_ | refine W.convIU (M := 18446744073709551616) rfl Try.underlying3 Try.underlying22 rfl rfl rfl ?_
      refine W.eqv (v' := u64V (sizeE es)) (iV (by rw [hlF]; omega)) ?_
      refine W.litV ([es.length, sizeE es].map u64V) U64 Try.underlying57 rfl rfl (u64_oneCell _) rfl rfl rfl ?_
      intro g31 w31 hg31 hX31 _ hs31
      have hP31 := hW24.ext hX31
      refine W.call Try.call33 rfl (Cod.put_ok g24 _ _ 2 [es.length, sizeE es] _ _ hP31.wr hs31 (fun ad e _ hc => by obtain rfl := Option.some.inj e; exact hW24.fresh hX31 (k := g31) (by omega) hc) (by simp)) rfl ?_
      rintro v32 w32 ⟨rfl, hP32⟩
      have hX32 := hP32.old hP31.wr (Nat.le_refl _) (hX24a.ext hX31)
      have hB1b := hP32.bk (hB1a.ext hX31) (fun hc => by
        have := hP31.ws _ hc
        rcases this with h | h
        · rcases h with rfl | ⟨q, h1, h2⟩
          · have := hB1.lt; omega
          · obtain rfl := Bk.one hB24 h1; cases h2
        · have := hB1a.lt; omega)
      refine W.nil ?_
      refine At.thenCode ?_
      refine C.seq ?_
      refine C.seq ?_
      refine C.region ?_
      refine W.loadB rfl Try.underlying49 rfl hB1b rfl rfl ?_
      refine W.lenS rfl Try.underlying49 rfl ?_
      refine W.move rfl rfl ?_
      refine W.nil ?_
      refine At.thenCode ?_
      refine C.block ?_
      refine C.loop (X := Nat) (fun x_ => [(7, .pointer (some ⟨g24, 0, none⟩)), (33, .slice ao es.length c), (34, .int .i64 (es.length : Int)), (35, .int .i64 (x_ : Int))]) (fun x_ wl => x_ ≤ es.length ∧ Ext w wl ∧ Wr wl g24 w.heap.size (be64 es.length ++ be64 (sizeE es) ++ encEnts (es.take x_)) ∧ ∀ p ∈ es.take x_, Rt p.1) (fun x_ => es.length - x_) (0) (Sub.cons (rfl) (Sub.cons (rfl) (Sub.cons (rfl) (Sub.cons (rfl) (Sub.nil))))) ?start1 ?_
      case start1 =>
        show (0) ≤ es.length ∧ Ext w _ ∧ Wr _ g24 w.heap.size (be64 es.length ++ be64 (sizeE es) ++ encEnts (es.take (0))) ∧ ∀ p ∈ es.take (0), Rt p.1
        exact ⟨by omega, hX32, by simpa [putsL, encEnts] using hP32.wr, by simp⟩
      rintro i wl hI_
      replace hI_ : i ≤ es.length ∧ Ext w wl ∧ Wr wl g24 w.heap.size (be64 es.length ++ be64 (sizeE es) ++ encEnts (es.take i)) ∧ ∀ p ∈ es.take i, Rt p.1 := hI_
      obtain ⟨hi, hXl, hWl, hRt⟩ := hI_
      refine C.weaken (l' := [(7, .pointer (some ⟨g24, 0, none⟩)), (33, .slice ao es.length c), (34, .int .i64 (es.length : Int)), (35, .int .i64 (i : Int))]) (Sub.cons (rfl) (Sub.cons (rfl) (Sub.cons (rfl) (Sub.cons (rfl) (Sub.nil))))) ?_
      refine C.seq ?_
      refine C.region ?_
      refine W.lssI rfl rfl rfl ?_
      refine W.nil ?_
      refine At.thenCode ?_
      refine C.seq ?_
      first | refine C.condD rfl (fun c36 => ?_) (fun c36 => ?_) | refine C.cond rfl (fun c36 => ?_) (fun c36 => ?_)
      · have hlt : i < es.length := by omega
        have hEl := hEb.ext rEnt hXl
        have hmem : es[i] ∈ es := List.getElem_mem hlt
        have hlen1 : (encEnts (es.take i)).length ≤ 1000 * (8 + 1048576) := by
          have := encEnts_le (l := es.take i) (m := 1048576) (fun p hp => hbox20 p (List.mem_of_mem_take hp))
          have h2 : (es.take i).length ≤ 1000 := by rw [List.length_take]; omega
          exact Nat.le_trans this (Nat.mul_le_mul_right (8 + 1048576) h2)
        have hlen2 : 1000 * (8 + 1048576) = 1048584000 := by decide
        rw [hlen2] at hlen1
        refine C.skip ?_
        refine At.thenCode ?_
        refine C.seq ?_
        refine C.block ?_
        refine C.seq ?_
        refine C.region ?_
        refine W.indexE EEnt Try.underlying49 rfl hEl rfl hlt rfl ?_
        rintro ad37 cs37 hc37 ⟨v37, rfl, hR37, hx37⟩ _
        obtain ⟨a37, c37, rfl, hs37, _⟩ := hR37.form
        refine W.loadA rfl hc37 Try.underlying36 rfl (by kernel_rfl) rfl ?_
        refine W.alloc (z := .agg #[.int .u64 0, .slice none 0 0]) [.int .u64 0, .slice none 0 0] (by kernel_rfl) rfl rfl ?_
        intro g9 w9 hg9 hX9 hB9
        refine W.storeA [u64V es[i].1, .slice a37 es[i].2.length c37] rfl rfl hB9 rfl (by kernel_rfl) (by intro u hu; simp at hu; rcases hu with rfl | rfl <;> rfl) ?_
        intro w10 hc10 hB10
        have hXl10 : Ext wl w10 := hX9.news hc10 fun k hk => Or.inr (by omega)
        have hP10 := hWl.ext hXl10
        have hX10 := hXl.ext hXl10
        have hn9 : ¬ WS w10 g24 g9 := hWl.fresh hXl10 (by omega)
        refine W.nil ?_
        refine At.thenCode ?_
        refine C.seq ?_
        refine C.seq ?_
        refine C.region ?_
        refine W.fieldB (off := 0) (size := 1) (t := 22) (Fld.of (by kernel_rfl)) rfl rfl rfl ?_
        refine W.loadB (v := u64V es[i].1) rfl Try.underlying22 rfl hB10 rfl rfl ?_
        refine W.call Try.call39 rfl (Grp.Right_ok _ _) rfl ?_
        rintro v w' ⟨rfl, rfl⟩
        first | refine W.notD rfl rfl ?_ | refine W.notB rfl rfl ?_
        refine W.nil ?_
        refine At.thenCode ?_
        first | refine C.condD rfl (fun c42 => ?_) (fun c42 => ?_) | refine C.cond rfl (fun c42 => ?_) (fun c42 => ?_)
        · have hwrong : wrongE es := ⟨es[i], hmem, Or.inr (by simpa using c42)⟩
          have hEE : entsE es = 1 := by unfold entsE; rw [if_neg hshort, if_pos hwrong]
          have hEB : entsB es = [] := by unfold entsB; rw [hEE]; rfl
          refine C.seq ?_
          refine C.region ?_
          refine W.assign rfl rfl ?_
          refine W.assign rfl rfl ?_
          refine W.nil ?_
          refine At.thenCode ?_
          refine C.ret ?_
          refine At.thenRet ?_
          refine At.blockRet ?_
          refine At.thenRet ?_
          refine At.thenRet ?_
          refine At.blockRet ?_
          refine At.thenRet ?_
          refine At.ret2 Try.results28 rfl rfl ?_
          exact ⟨none, 0, by rw [hEB, hEE]; rfl, by rw [hEB]; exact NewB.nil _ _, hX10⟩
        · refine C.skip ?_
          refine At.thenCode ?_
          refine C.seq ?_
          refine C.region ?_
          refine W.move rfl rfl ?_
          refine W.fieldB (off := 0) (size := 1) (t := 22) (Fld.of (by kernel_rfl)) rfl rfl rfl ?_
          refine W.loadB (v := u64V es[i].1) rfl Try.underlying22 rfl hB10 rfl rfl ?_
          refine W.litV ([es[i].1].map u64V) U64 Try.underlying57 rfl rfl (u64_oneCell _) rfl rfl rfl ?_
          intro g46 w46 hg46 hX46 _ hs46
          have hP46 := hP10.wr.ext hX46
          refine W.call Try.call33 rfl (Cod.put_ok g24 _ _ 1 [es[i].1] _ _ hP46.wr hs46 (fun ad e _ hc => by obtain rfl := Option.some.inj e; exact hP10.wr.fresh hX46 (k := g46) (by omega) hc) (by simp [be64_length]; omega)) rfl ?_
          rintro v47 w47 ⟨rfl, hP47⟩
          have hX47 := hP47.old hP46.wr (Nat.le_refl _) (hX10.ext hX46)
          have hn9' : ¬ WS w46 g24 g9 := fun hc => by
            rcases hP46.ws _ hc with h | h
            · exact hn9 h
            · have := hB10.lt; omega
          have hB47 := hP47.bk (hB10.ext hX46) hn9'
          have hE47 := hE.ext rEnt hX47
          refine W.nil ?_
          refine At.thenCode ?_
          refine C.region ?_
          refine W.move rfl rfl ?_
          refine W.fieldB (off := 1) (size := 1) (t := 27) (Fld.of (by kernel_rfl)) rfl rfl rfl ?_
          refine W.loadB (v := .slice a37 es[i].2.length c37) rfl Try.underlying27 rfl hB47 rfl rfl ?_
          have hR47 := rByt.chg hR37 (((hXl10.ext hX46).mono fun k hk => hk.elim).trans (hP47.chgB hP46.wr))
          obtain ⟨a51, c51, e51, hs51, _⟩ := hR47.form
          obtain ⟨rfl, rfl⟩ : a37 = a51 ∧ c37 = c51 := by injection e51 with h1 _ h3; exact ⟨h1, h3⟩
          refine W.call Try.call34 rfl (Cod.bytes_ok g24 _ _ _ es[i].2 _ _ hP47.wr hs51 (by simp [putsL, be64_length]; have := hbox20 _ hmem; omega)) rfl ?_
          rintro v51 w51 ⟨rfl, hP51⟩
          refine W.nil ?_
          refine At.blockNormal ?_
          refine At.thenCode ?_
          refine C.region ?_
          first | refine W.addI rfl rfl (by omega) rfl ?_ | refine W.addW rfl rfl rfl ?_
          refine W.move rfl rfl ?_
          refine W.nil ?_
          refine At.thenRound (i + 1) (Sub.cons (rfl) (Sub.cons (rfl) (Sub.cons (rfl) (Sub.cons (look_eq rfl (iV (by omega))) (Sub.nil))))) (show (i + 1) ≤ es.length ∧ Ext w _ ∧ Wr _ g24 w.heap.size (be64 es.length ++ be64 (sizeE es) ++ encEnts (es.take (i + 1))) ∧ ∀ p ∈ es.take (i + 1), Rt p.1 from ?_) (show es.length - (i + 1) < es.length - i from ?_)
          · refine ⟨by omega, hP51.old hP47.wr (Nat.le_refl _) hX47, ?_, ?_⟩
            · rw [encEnts_take hlt]
              have := hP51.wr
              simpa [putsL] using this
            · intro p hp
              rw [List.take_succ_eq_append_getElem hlt] at hp
              rcases List.mem_append.1 hp with h | h
              · exact hRt p h
              · obtain rfl := List.mem_singleton.1 h
                simpa using c42
          · omega
      · obtain rfl : i = es.length := by omega
        rw [List.take_length] at hWl hRt
        have hEE : entsE es = 0 := by
          unfold entsE
          rw [if_neg hshort, if_neg]
          rintro ⟨p, hp, hq⟩
          rcases hq with hq | hq
          · exact hq (hallk p hp)
          · exact hq (hRt p hp)
        have hEB : entsB es = be64 es.length ++ be64 (sizeE es) ++ encEnts es := by unfold entsB; rw [if_pos hEE]
        rw [← hEB] at hWl
        obtain ⟨vb, hBl, hOl, hnel⟩ := hWl.own
        obtain ⟨aoR, cR, rfl, hSR, hbR⟩ := ownsRow_form hOl
        refine C.exit ?_
        refine At.thenExit ?_
        refine At.thenExit ?_
        refine At.blockSelf ?_
        refine At.thenCode ?_
        refine C.seq ?_
        refine C.region ?_
        refine W.move rfl rfl ?_
        refine W.nilCheck rfl rfl ?_
        refine W.fieldB (off := 0) (size := 1) (t := 27) (Fld.of (by kernel_rfl)) rfl rfl rfl ?_
        refine W.loadB rfl Try.underlying27 rfl (by assumption) rfl rfl ?_
        refine W.assign rfl rfl ?_
        refine W.assign rfl rfl ?_
        refine W.nil ?_
        refine At.thenCode ?_
        refine C.ret ?_
        refine At.ret2 Try.results28 rfl rfl ?_
        exact ⟨aoR, cR, by rw [hEE]; rfl, ⟨hSR, fun ad e _ => hbR ad e⟩, hXl⟩
end Go.Proofs.Ytpjdkobmcjgcjaa.Cod
