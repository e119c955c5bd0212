/- Chapter 23: the walk of its law on proofs. -/
import Derived.Test.YthiijdbiikljpaaLaw23
namespace Go.Proofs.Ythiijdbiikljpaa.Law23
open Go Go.RowKit Go.Proofs.Ythiijdbiikljpaa.KW Go.Proofs.Ythiijdbiikljpaa.Words Go.Proofs.Ythiijdbiikljpaa.Sha Go.Proofs.Ythiijdbiikljpaa.RSha Go.Proofs.Ythiijdbiikljpaa.Grp Go.Proofs.Ythiijdbiikljpaa.Cod Go.Proofs.Ythiijdbiikljpaa.Disk Go.Proofs.Ythiijdbiikljpaa.Mbx
set_option linter.unusedVariables false
set_option linter.unusedSimpArgs false
set_option maxRecDepth 100000
/-- A batch of proofs alone. -/
def pB (ns : List Nat) : BatD := ⟨0, 0, ns, []⟩
theorem pB_ok {ns : List Nat} (h : ∀ x ∈ ns, x < 18446744073709551616) : BatOk (pB ns) := ⟨show InI 0 by constructor <;> decide, show InI 0 by constructor <;> decide, h, fun p hp => by simp [pB] at hp⟩
theorem pB_may {ns : List Nat} (h : ns.length ≤ 20) : mayE ⟨[], 0⟩ (pB ns) = 0 := by
  have : batE (pB ns) = 0 := by
    have h1 : ¬ 20 < ns.length := by omega
    simp [batE, pB, longL, wrongL, h1]
  simp only [mayE, this]
  simp [pB, hasL]
theorem pB_len {ns : List Nat} (h : ∀ x ∈ ns, x < 18446744073709551616) (hl : ns.length ≤ 20) : (batB (pB ns)).length ≤ 200 := by
  have := batB_len (pB_ok h) (m := 1) (fun p hp => by simp [pB] at hp)
  have h1 : (pB ns).inner.length = ns.length := rfl
  have h2 : (pB ns).lets.length = 0 := rfl
  omega
/-- The one batch that stands is what the proofs fit. -/
theorem proofs_law {xs zs : List Nat} {sm : Bool} (hx : xs.length ≤ 20) (hz : zs.length ≤ 20) (hxb : ∀ x ∈ xs, x < 18446744073709551616) (hzb : ∀ x ∈ zs, x < 18446744073709551616) (hs : provedB zs (xs.map (timesV 37)) = sm) :
    acceptE (B0 10000) (pB zs) (xs.map (timesV 37)) = (if sm then 0 else 10) ∧ acceptE (acceptB (B0 10000) (pB zs) (xs.map (timesV 37))) (pB xs) (xs.map (timesV 37)) = (if sm then 11 else 0) ∧
    (acceptB (acceptB (B0 10000) (pB zs) (xs.map (timesV 37))) (pB xs) (xs.map (timesV 37))).s.l.length = 1 ∧ (acceptB (B0 10000) (pB zs) (xs.map (timesV 37))).D.bs.length ≤ 1000 ∧ (acceptB (B0 10000) (pB zs) (xs.map (timesV 37))).s.l.length ≤ 1 := by
  obtain ⟨_, hg0⟩ := Good.new 10000
  have hself : provedB xs (xs.map (timesV 37)) = true := decide_eq_true rfl
  cases sm with
  | true =>
    have hl := pB_len hzb hz
    obtain ⟨h1, h2, h3, h4, h5⟩ := hg0.accept (x := pB zs) (pubs := xs.map (timesV 37)) (pB_may hz) (pB_ok hzb) hs (by omega) (by show 0 + 13 + _ ≤ 10000; omega)
    have h3' : (acceptB (B0 10000) (pB zs) (xs.map (timesV 37))).s = ⟨[pB zs], 0⟩ := h3
    have hm : mayE (acceptB (B0 10000) (pB zs) (xs.map (timesV 37))).s (pB xs) = 11 := by
      rw [h3']
      have hb := (mayE_zero (pB_may hx)).2.1
      simp only [mayE, hb]
      simp [hasL, pB]
    obtain ⟨h6, h7⟩ := accept_may (B := acceptB (B0 10000) (pB zs) (xs.map (timesV 37))) (x := pB xs) (pubs := xs.map (timesV 37)) (by rw [hm]; decide)
    refine ⟨h1, by rw [h6, hm]; rfl, by rw [h7, h3']; rfl, ?_, by rw [h3']; exact Nat.le_refl _⟩
    have : (acceptB (B0 10000) (pB zs) (xs.map (timesV 37))).D.bs.length = 0 + 13 + (batB (pB zs)).length := h5
    omega
  | false =>
    have hl := pB_len hxb hx
    obtain ⟨h1, h2⟩ := accept_proof (B := B0 10000) (pB_may hz) hs
    obtain ⟨h3, h4, h5, h6, h7⟩ := hg0.accept (x := pB xs) (pubs := xs.map (timesV 37)) (pB_may hx) (pB_ok hxb) hself (by omega) (by show 0 + 13 + _ ≤ 10000; omega)
    rw [h2]
    refine ⟨h1, h3, ?_, Nat.zero_le _, Nat.zero_le _⟩
    have : (acceptB (B0 10000) (pB xs) (xs.map (timesV 37))).s = ⟨[pB xs], 0⟩ := h5
    rw [this]; rfl
theorem proved_set {xs : List Nat} {k z : Nat} (hk : k < xs.length) : provedB (xs.set k z) (xs.map (timesV 37)) = decide (timesV 37 z = timesV 37 (xs[k]'hk)) := by
  unfold provedB
  rw [decide_eq_decide, List.map_set]
  constructor
  · intro h
    have h1 : ((xs.map (timesV 37)).set k (timesV 37 z))[k]? = (xs.map (timesV 37))[k]? := by rw [h]
    rw [List.getElem?_set_self (by simpa using hk), List.getElem?_map, List.getElem?_eq_getElem hk] at h1
    simpa using h1
  · intro h
    rw [h]
    have : timesV 37 (xs[k]'hk) = (xs.map (timesV 37))[k]'(by simpa using hk) := by simp
    rw [this, List.set_getElem_self]
theorem proved_less {xs zs : List Nat} (h : zs.length < xs.length) : provedB zs (xs.map (timesV 37)) = false := decide_eq_false fun e => by have := congrArg List.length e; simp at this; omega
theorem own_at {w : World} {base e n c : Nat} {a : Option Addr} {cs : List Value} {sz : Nat} (h : w.ownsRow base e sz (.slice a n c) n cs) (hn : 0 < n) : ∃ g, a = some ⟨g, 0, none⟩ := by
  rcases h.2 with ⟨h0, h1⟩ | ⟨g, cap, cur, hv, _⟩
  · omega
  · injection hv with h1; exact ⟨g, h1⟩
theorem OwE.any {A B : Nat → Prop} {w : World} {base e : Nat} {v : Value} {xs : List Nat} (h : OwE A w base e 10 RPub v xs) : OwE B w base e 10 RPub v xs := by
  obtain ⟨cs, ho, he⟩ := h
  exact ⟨cs, ho, fun i hi => he i hi⟩
theorem MailboxProofs_walk (ao : Option Addr) (c : Nat) (xs : List Nat) (at_ : Int) (by_ : Nat) (less : Bool) (w : World) (hS : Us w ao c xs) (hl : xs.length ≤ 9223372036854775807) (hb : ∀ x ∈ xs, x < 18446744073709551616) (hat : -9223372036854775808 ≤ at_ ∧ at_ ≤ 9223372036854775807) (hby : by_ < 18446744073709551616) :
    Ct Try.prog 4 #[.slice ao xs.length c, .int .i64 at_, .int .u64 (by_ : Int), .bool less] w (LawOk w) := by
  refine Ct.enter [(0, .slice ao xs.length c), (1, .int .i64 at_), (2, .int .u64 (by_ : Int)), (3, .bool less)] Try.func4 rfl rfl rfl rfl ?_
  obtain ⟨hop0, hg0⟩ := Good.new 10000
  rw [show (⟨⟨10000, [], 0, []⟩, ⟨[], 0⟩, none⟩ : Box) = B0 10000 from rfl] at hop0
  obtain ⟨P, hP⟩ : ∃ P, P = xs.map (timesV 37) := ⟨_, rfl⟩
  have hPl : P.length = xs.length := by rw [hP, List.length_map]
  refine C.seq ?_
  refine C.region ?_
  refine W.assign rfl rfl ?_
  refine W.nil ?_
  refine At.thenCode ?_
  refine C.seq ?_
  refine C.region ?_
  refine W.call Try.call8 rfl (Law23.alive_ok _) rfl ?_
  rintro v17 w17 ⟨rfl, hX17⟩
  refine W.assign rfl rfl ?_
  refine W.nil ?_
  refine At.thenCode ?_
  refine C.seq ?_
  refine C.seq ?_
  refine C.region ?_
  refine W.move rfl rfl ?_
  first | refine W.notD rfl rfl ?_ | refine W.notB rfl rfl ?_
  refine W.eqv (v' := .bool false) (rfl) ?_
  refine W.move rfl rfl ?_
  refine W.wants rfl rfl rfl rfl ?_
  refine W.move rfl rfl ?_
  refine W.wants rfl rfl rfl rfl ?_
  refine W.lenS rfl Try.underlying30 rfl ?_
  refine W.wants rfl rfl rfl rfl ?_
  refine W.lssI rfl rfl rfl ?_
  refine W.pickF rfl rfl rfl ?_
  refine W.move rfl rfl ?_
  first | refine W.splitD (fun g25 => ?_) (fun g25 => ?_) | refine W.splitB (fun g25 => ?_) (fun g25 => ?_)
  · refine W.skips rfl rfl rfl rfl rfl rfl ?_
    refine W.skips rfl rfl rfl rfl rfl rfl ?_
    refine W.skips rfl rfl rfl rfl rfl rfl ?_
    refine W.pickT rfl rfl rfl ?_
    refine W.move rfl rfl ?_
    refine W.skips rfl rfl rfl rfl rfl rfl ?_
    refine W.skips rfl rfl rfl rfl rfl rfl ?_
    refine W.pickT rfl rfl rfl ?_
    refine W.move rfl rfl ?_
    refine W.skips rfl rfl rfl rfl rfl rfl ?_
    refine W.skips rfl rfl rfl rfl rfl rfl ?_
    refine W.skips rfl rfl rfl rfl rfl rfl ?_
    refine W.skips rfl rfl rfl rfl rfl rfl ?_
    refine W.pickT rfl rfl rfl ?_
    refine W.nil ?_
    refine At.thenCode ?_
    refine C.condT rfl ?_
    refine C.seq ?_
    refine C.region ?_
    refine W.move rfl rfl ?_
    refine W.assign rfl rfl ?_
    refine W.nil ?_
    refine At.thenCode ?_
    refine C.ret ?_
    refine At.thenRet ?_
    refine At.ret1 Try.results4 rfl ?_
    first
    | exact ⟨rfl, Ext.below hL17.ext⟩
    | exact ⟨rfl, Ext.below hX17⟩
  · refine W.wants rfl rfl rfl rfl ?_
    refine W.move rfl rfl ?_
    refine W.wants rfl rfl rfl rfl ?_
    refine W.lenS rfl Try.underlying30 rfl ?_
    refine W.wants rfl rfl rfl rfl ?_
    refine W.gtrI rfl rfl rfl ?_
    refine W.pickF rfl rfl rfl ?_
    refine W.move rfl rfl ?_
    first | refine W.splitD (fun g30 => ?_) (fun g30 => ?_) | refine W.splitB (fun g30 => ?_) (fun g30 => ?_)
    · refine W.skips rfl rfl rfl rfl rfl rfl ?_
      refine W.skips rfl rfl rfl rfl rfl rfl ?_
      refine W.pickT rfl rfl rfl ?_
      refine W.move rfl rfl ?_
      refine W.skips rfl rfl rfl rfl rfl rfl ?_
      refine W.skips rfl rfl rfl rfl rfl rfl ?_
      refine W.skips rfl rfl rfl rfl rfl rfl ?_
      refine W.skips rfl rfl rfl rfl rfl rfl ?_
      refine W.pickT rfl rfl rfl ?_
      refine W.nil ?_
      refine At.thenCode ?_
      refine C.condT rfl ?_
      refine C.seq ?_
      refine C.region ?_
      refine W.move rfl rfl ?_
      refine W.assign rfl rfl ?_
      refine W.nil ?_
      refine At.thenCode ?_
      refine C.ret ?_
      refine At.thenRet ?_
      refine At.ret1 Try.results4 rfl ?_
      first
      | exact ⟨rfl, Ext.below hL17.ext⟩
      | exact ⟨rfl, Ext.below hX17⟩
    · refine W.wants rfl rfl rfl rfl ?_
      refine W.move rfl rfl ?_
      refine W.wants rfl rfl rfl rfl ?_
      refine W.lssI rfl rfl rfl ?_
      refine W.pickF rfl rfl rfl ?_
      refine W.move rfl rfl ?_
      first | refine W.splitD (fun g34 => ?_) (fun g34 => ?_) | refine W.splitB (fun g34 => ?_) (fun g34 => ?_)
      · refine W.skips rfl rfl rfl rfl rfl rfl ?_
        refine W.skips rfl rfl rfl rfl rfl rfl ?_
        refine W.skips rfl rfl rfl rfl rfl rfl ?_
        refine W.skips rfl rfl rfl rfl rfl rfl ?_
        refine W.pickT rfl rfl rfl ?_
        refine W.nil ?_
        refine At.thenCode ?_
        refine C.condT rfl ?_
        refine C.seq ?_
        refine C.region ?_
        refine W.move rfl rfl ?_
        refine W.assign rfl rfl ?_
        refine W.nil ?_
        refine At.thenCode ?_
        refine C.ret ?_
        refine At.thenRet ?_
        refine At.ret1 Try.results4 rfl ?_
        first
        | exact ⟨rfl, Ext.below hL17.ext⟩
        | exact ⟨rfl, Ext.below hX17⟩
      · refine W.wants rfl rfl rfl rfl ?_
        refine W.move rfl rfl ?_
        refine W.wants rfl rfl rfl rfl ?_
        refine W.move rfl rfl ?_
        refine W.wants rfl rfl rfl rfl ?_
        refine W.lenS rfl Try.underlying30 rfl ?_
        refine W.wants rfl rfl rfl rfl ?_
        refine W.geqI rfl rfl rfl ?_
        refine W.pickF rfl rfl rfl ?_
        refine W.nil ?_
        refine At.thenCode ?_
        first | refine C.condD rfl (fun c39 => ?_) (fun c39 => ?_) | refine C.cond rfl (fun c39 => ?_) (fun c39 => ?_)
        · refine C.seq ?_
          refine C.region ?_
          refine W.move rfl rfl ?_
          refine W.assign rfl rfl ?_
          refine W.nil ?_
          refine At.thenCode ?_
          refine C.ret ?_
          refine At.thenRet ?_
          refine At.ret1 Try.results4 rfl ?_
          first
          | exact ⟨rfl, Ext.below hL17.ext⟩
          | exact ⟨rfl, Ext.below hX17⟩
        · have hn : xs.length ≤ 20 := by omega
          obtain ⟨k, rfl⟩ : ∃ k : Nat, at_ = k := ⟨at_.toNat, by omega⟩
          have hk : k < xs.length := by omega
          refine C.skip ?_
          refine At.thenCode ?_
          refine C.seq ?_
          refine C.region ?_
          refine W.call Try.call9 rfl (LiveD.New (w0 := w) (Y := fun _ => False) 10000 hX17 (fun _ h => h.elim) (by decide)) rfl ?_
          rintro v5 w5 ⟨dg, rfl, hD5, hX5⟩
          refine W.call Try.call10 rfl (hD5.Open (Nat.zero_le _)) rfl ?_
          rintro v4 w4 ⟨g, rfl, hL4, hC4⟩
          have hL4 : Live w w4 (fun _ => False) g dg (max 0 10000) (B0 10000) := by have := hL4; rwa [show (10000 : Int).toNat = 10000 from rfl, hop0] at this
          refine W.assign rfl rfl ?_
          refine W.nil ?_
          refine At.thenCode ?_
          refine C.seq ?_
          refine C.region ?_
          refine W.assign rfl rfl ?_
          refine W.nil ?_
          refine At.thenCode ?_
          refine C.seq ?_
          refine C.seq ?_
          refine C.region ?_
          refine W.assign rfl rfl ?_
          refine W.nil ?_
          refine At.thenCode ?_
          refine C.block ?_
          refine C.loop (X := Nat × Value) (fun x_ => [(0, .slice ao xs.length c), (1, .int .i64 (k : Int)), (2, .int .u64 (by_ : Int)), (3, .bool less), (10, .pointer (some ⟨g, 0, none⟩)), (11, x_.2), (12, .int .i64 (x_.1 : Int))]) (fun x_ w1 => x_.1 ≤ xs.length ∧ Ext w4 w1 ∧ OwE (fun _ => False) w1 w4.heap.size 47 10 RPub x_.2 ((xs.take x_.1).map (timesV 37))) (fun x_ => xs.length - x_.1) (0, .slice none 0 0) (Sub.cons (rfl) (Sub.cons (rfl) (Sub.cons (rfl) (Sub.cons (rfl) (Sub.cons (rfl) (Sub.cons (rfl) (Sub.cons (rfl) (Sub.nil)))))))) ?start1 ?_
          case start1 =>
            show (0) ≤ xs.length ∧ Ext w4 _ ∧ OwE (fun _ => False) _ w4.heap.size 47 10 RPub (.slice none 0 0) ((xs.take (0)).map (timesV 37))
            exact ⟨by omega, Ext.refl _, OwE.nil _ _ _ _ _ _⟩
          rintro ⟨i, v⟩ w1 hI_
          replace hI_ : i ≤ xs.length ∧ Ext w4 w1 ∧ OwE (fun _ => False) w1 w4.heap.size 47 10 RPub v ((xs.take i).map (timesV 37)) := hI_
          obtain ⟨hi, hX1, hO1⟩ := hI_
          refine C.weaken (l' := [(0, .slice ao xs.length c), (1, .int .i64 (k : Int)), (2, .int .u64 (by_ : Int)), (3, .bool less), (10, .pointer (some ⟨g, 0, none⟩)), (11, v), (12, .int .i64 (i : Int))]) (Sub.cons (rfl) (Sub.cons (rfl) (Sub.cons (rfl) (Sub.cons (rfl) (Sub.cons (rfl) (Sub.cons (rfl) (Sub.cons (rfl) (Sub.nil)))))))) ?_
          refine C.seq ?_
          refine C.seq ?_
          refine C.region ?_
          refine W.move rfl rfl ?_
          refine W.move rfl rfl ?_
          refine W.lenS rfl Try.underlying30 rfl ?_
          refine W.lssI rfl rfl rfl ?_
          refine W.nil ?_
          refine At.thenCode ?_
          first | refine C.condD rfl (fun c46 => ?_) (fun c46 => ?_) | refine C.cond rfl (fun c46 => ?_) (fun c46 => ?_)
          · have hlt : i < xs.length := by omega
            refine C.skip ?_
            refine At.thenCode ?_
            refine C.seq ?_
            refine C.block ?_
            refine C.region ?_
            refine W.move rfl rfl ?_
            refine W.move rfl rfl ?_
            refine W.move rfl rfl ?_
            refine W.indexS (i := (i : Int)) U64 Try.underlying30 rfl ((hS.ext hL4.ext).ext hX1) rfl ⟨by omega, by omega⟩ rfl ?_
            intro ad52 _ _ hq52
            have hc52 := hq52 0 (u64V xs[i]) (by rw [List.getElem?_drop, Int.toNat_natCast, Nat.mul_one, Nat.add_zero]; exact get_u64 hlt)
            rw [add_zero'] at hc52
            refine W.load (v := .int .u64 ((xs[i] : Nat) : Int)) rfl Try.underlying41 rfl hc52 rfl ?_
            refine W.call Try.call18 rfl (Grp.RBase_ok xs[i] (hb _ (List.getElem_mem hlt)) _) rfl ?_
            rintro v54 w54 ⟨rfl, rfl⟩
            refine W.buildS (fs := _) [(0, 1), (1, 1), (2, 1), (3, 1), (4, 2), (6, 2), (8, 2)] ((List.replicate 10 (Value.int .u64 0)).set 3 (.int .u64 ((timesV 37 xs[i] : Nat) : Int))) (List.replicate 10 (Value.int .u64 0)) Try.underlying47 (by kernel_rfl) (by kernel_rfl) rfl rfl rfl ?_
            refine W.litS ((List.replicate 10 (Value.int .u64 0)).set 3 (.int .u64 ((timesV 37 xs[i] : Nat) : Int))) EPub Try.underlying42 rfl rfl (by decide) rfl ?_
            intro g56 w56 hg56 hX56 _ hs56
            have hlt57 := fun k hk => OwE.lt hO1 k hk
            have hsz57 := hX1.size
            refine W.appendE (ys := [timesV 37 xs[i]]) rPub EPub Try.underlying42 rfl rfl (OwE.ext rPub hO1 hX56) (Els.lit hs56 ⟨rfl, (by intro u hu; simp [List.replicate, List.set] at hu; rcases hu with h | h | h <;> (rw [h]; rfl)), rfl, Nat.lt_trans (timesV_lt _ _) (by decide)⟩ (fun hq => by
              rcases hq with hq | hq
              · exact hq
              · have := (hlt57 _ hq).2; omega)) (by simp; omega) (by simp; omega) (by have := hX56.size; omega) rfl ?_
            intro v57 w57 hO57 hg57 hl57
            have hX57 : Ext w4 w57 := (hX1.ext hX56).news (Chg.of_grown hg57) fun k hk => Or.inr (hlt57 k hk.symm).1
            refine W.assign rfl rfl ?_
            refine W.nil ?_
            refine At.blockNormal ?_
            refine At.thenCode ?_
            refine C.region ?_
            refine W.move rfl rfl ?_
            first | refine W.addI rfl rfl (by omega) rfl ?_ | refine W.addW rfl rfl rfl ?_
            refine W.assign rfl rfl ?_
            refine W.nil ?_
            refine At.thenRound (i + 1, v57) (Sub.cons (rfl) (Sub.cons (rfl) (Sub.cons (rfl) (Sub.cons (rfl) (Sub.cons (rfl) (Sub.cons (rfl) (Sub.cons (look_eq rfl (iV (by omega))) (Sub.nil)))))))) (show (i + 1) ≤ xs.length ∧ Ext w4 _ ∧ OwE (fun _ => False) _ w4.heap.size 47 10 RPub (v57) ((xs.take (i + 1)).map (timesV 37)) from ?_) (show xs.length - (i + 1) < xs.length - i from ?_)
            · refine ⟨by omega, hX57, ?_⟩
              rw [List.take_succ_eq_append_getElem hlt, List.map_append]
              exact hO57
            · omega
          · have hi' : i = xs.length := by omega
            subst hi'
            rw [List.take_length, ← hP] at hO1
            obtain ⟨aP, cP, rfl, hE1, _⟩ := OwE.form rPub (OwE.any hO1 (B := fun k => k < w4.heap.size)) (fun k hk hq => by have := (OwE.lt hO1 k hk).1; omega)
            refine C.exit ?_
            refine At.thenExit ?_
            refine At.thenExit ?_
            refine At.blockSelf ?_
            refine At.thenCode ?_
            refine C.seq ?_
            refine C.region ?_
            refine W.move rfl rfl ?_
            refine W.appendU (xs := []) (base := w1.heap.size) U64 Try.underlying30 rfl rfl (World.ownsRow_nil _ _ _ _) ((hS.ext hL4.ext).ext hX1) (by simp; omega) (Nat.le_refl _) rfl ?_
            rw [List.nil_append]
            intro v59 w59 ho59 hg59 _
            have hX59 : Ext w1 w59 := (Chg.of_grown hg59).mono fun k hk => by cases hk
            obtain ⟨ao59, c59, rfl, hS59, hb59⟩ := ownsRow_form ho59
            obtain ⟨g59, rfl⟩ := own_at ho59 (by omega)
            have hg59b : w1.heap.size ≤ g59 := hb59 _ rfl
            refine W.assign rfl rfl ?_
            refine W.nil ?_
            refine At.thenCode ?_
            refine C.seq ?_
            refine C.region ?_
            refine W.move rfl rfl ?_
            refine W.move rfl rfl ?_
            refine W.move rfl rfl ?_
            refine W.move rfl rfl ?_
            refine W.indexS (i := (k : Int)) U64 Try.underlying30 rfl hS59 rfl ⟨by omega, by omega⟩ rfl ?_
            intro ad64 _ _ hq64
            have hc64 := hq64 0 (u64V xs[k]) (by rw [List.getElem?_drop, Int.toNat_natCast, Nat.mul_one, Nat.add_zero]; exact get_u64 hk)
            rw [add_zero'] at hc64
            refine W.load (v := .int .u64 ((xs[k] : Nat) : Int)) rfl Try.underlying41 rfl hc64 rfl ?_
            refine W.move rfl rfl ?_
            refine W.addU (M := 18446744073709551616) rfl rfl rfl rfl rfl ?_
            obtain ⟨z, hz⟩ : ∃ z, z = addM 18446744073709551616 xs[k] by_ := ⟨_, rfl⟩
            rw [← hz]
            have hzl : z < 18446744073709551616 := by rw [hz]; exact Nat.mod_lt _ (by decide)
            refine W.indexS (i := (k : Int)) U64 Try.underlying30 rfl hS59 rfl ⟨by omega, by omega⟩ rfl ?_
            intro ad68 _ had68 _
            obtain rfl : ad68 = ⟨g59, k, none⟩ := by rw [had68 _ rfl, add_mk, Int.toNat_natCast, Nat.zero_add, Nat.mul_one]
            refine W.storeO rfl rfl rfl ho59 hk (by kernel_rfl) ?_
            intro w11 hc11 hO11
            have hO11 : w11.ownsRow w1.heap.size 41 1 (.slice (some ⟨g59, 0, none⟩) xs.length c59) xs.length ((xs.set k z).map u64V) := by rw [List.map_set]; exact hO11
            have hX11a : Ext w1 w11 := hX59.news hc11 fun k hk => Or.inr (by omega)
            have hX11 : Ext w4 w11 := hX1.ext hX11a
            have hL11 := hL4.more hX11
            have hE11 : Els (Fr w (More (fun _ => False) w4 w11)) w11 10 RPub aP cP P := Els.new rPub (Els.ext rPub hE1 hX11a) fun q hq hql => by
              rcases Nat.lt_or_ge q w4.heap.size with h | h
              · exact h
              · exact absurd (Or.inr ⟨h, hql⟩) hq.1
            have hS11 : Us w11 (some ⟨g59, 0, none⟩) c59 (xs.set k z) := by
              obtain ⟨a', c', q, hs, _⟩ := ownsRow_form hO11
              injection q with e1 _ e3
              subst e1; subst e3
              show Sl _ _ (xs.set k z).length _ _ _
              rw [List.length_set]; exact hs
            obtain ⟨pk, hpk⟩ : ∃ pk, pk = timesV 37 xs[k] := ⟨_, rfl⟩
            have hk' : k < (xs.set k z).length := by rw [List.length_set]; exact hk
            have hy11 : ¬ Fr w (More (fun _ => False) w4 w11) g59 := fun hq => hq.1 (.inr ⟨by have := hX1.size; omega, (World.ownsRow.lt hO11 g59 rfl).2⟩)
            have hzsb : ∀ x ∈ xs.set k z, x < 18446744073709551616 := fun x hx => by
              rcases List.mem_or_eq_of_mem_set hx with h | rfl
              · exact hb x h
              · exact hzl
            refine W.nil ?_
            refine At.thenCode ?_
            refine C.seq ?_
            refine C.regionAny 12 ((fun v w => v = .slice (some ⟨g59, 0, none⟩) xs.length c59) :: (fun v w => v = .int .i64 (k : Int)) :: (fun v w => ∃ ad, v = .pointer (some ad) ∧ w.cell? ad = some (u64V z)) :: (fun v w => v = .int .u64 ((z : Nat) : Int)) :: (fun v w => v = .int .u64 ((timesV 37 z : Nat) : Int)) :: (fun v w => v = .slice aP P.length cP) :: (fun v w => v = .int .i64 (k : Int)) :: (fun v w => ∃ ad, v = .pointer (some ad) ∧ ∃ cs, Cells w ad cs ∧ cs[3]? = some (.int .u64 ((pk : Nat) : Int))) :: (fun v w => ∃ ad, v = .pointer (some ad) ∧ w.cell? ad = some (.int .u64 ((pk : Nat) : Int))) :: (fun v w => v = .int .u64 ((pk : Nat) : Int)) :: (fun v w => v = .bool (decide (timesV 37 z = pk))) :: (fun v w => v = .bool (decide (timesV 37 z = pk))) :: []) [(0, .slice ao xs.length c), (1, .int .i64 (k : Int)), (3, .bool less), (10, .pointer (some ⟨g, 0, none⟩)), (11, .slice aP P.length cP), (13, .slice (some ⟨g59, 0, none⟩) xs.length c59)] [] (Sub.cons (rfl) (Sub.cons (rfl) (Sub.cons (rfl) (Sub.cons (rfl) (Sub.cons (rfl) (Sub.cons (rfl) (Sub.nil))))))) (Sub.nil) (Sub.cons (rfl) (Sub.cons (rfl) (Sub.cons (rfl) (Sub.cons (rfl) (Sub.cons (rfl) (Sub.cons (rfl) (Sub.nil))))))) (by kernel_rfl) rfl rfl rfl (And.intro (fun _ _ _ h _ => h) (And.intro (fun _ _ _ h _ => h) (And.intro (fun _ _ _ h g => by obtain ⟨ad, e, h1⟩ := h; exact ⟨ad, e, Chg.cell g h1 fun c => c⟩) (And.intro (fun _ _ _ h _ => h) (And.intro (fun _ _ _ h _ => h) (And.intro (fun _ _ _ h _ => h) (And.intro (fun _ _ _ h _ => h) (And.intro (fun _ _ _ h g => by obtain ⟨ad, e, cs, h1, h2⟩ := h; exact ⟨ad, e, cs, h1.chg g (fun c => c), h2⟩) (And.intro (fun _ _ _ h g => by obtain ⟨ad, e, h1⟩ := h; exact ⟨ad, e, Chg.cell g h1 fun c => c⟩) (And.intro (fun _ _ _ h _ => h) (And.intro (fun _ _ _ h _ => h) (And.intro (fun _ _ _ h _ => h) (trivial))))))))))))) ?_ ?_
            · refine And.intro ?_ ?_
              · intro L_ wr hX_ hs_ hf_ hd_
                refine W.step [(13, _)] (Sub.cons (hs_ _ _ rfl) (Sub.refl _)) ?_
                refine W.move rfl rfl ?_
                refine W.nil ?_
                exact At.step (Ext.refl _) rfl
              refine And.intro ?_ ?_
              · intro L_ wr hX_ hs_ hf_ hd_
                refine W.step [(1, _)] (Sub.cons (hs_ _ _ rfl) (Sub.refl _)) ?_
                refine W.move rfl rfl ?_
                refine W.nil ?_
                exact At.step (Ext.refl _) rfl
              refine And.intro ?_ ?_
              · intro L_ wr hX_ hs_ hf_ hd_
                obtain ⟨v0, e0, r0⟩ := hd_ 0 rfl
                obtain rfl : (.slice (some ⟨g59, 0, none⟩) xs.length c59 : Value) = v0 := Eq.symm r0
                obtain ⟨v1, e1, r1⟩ := hd_ 1 rfl
                obtain rfl : (.int .i64 (k : Int) : Value) = v1 := Eq.symm r1
                refine W.step [(69, _), (70, _)] (Sub.cons (e0 _ rfl) (Sub.cons (e1 _ rfl) (Sub.refl _))) ?_
                have hS11' : Sl wr (some ⟨g59, 0, none⟩) xs.length c59 1 ((xs.set k z).map u64V) := by have := hS11.ext hX_; rwa [show (xs.set k z).length = xs.length from List.length_set] at this
                refine W.indexS (i := (k : Int)) U64 Try.underlying30 rfl hS11' rfl ⟨by omega, by omega⟩ rfl ?_
                intro ad71 _ _ hq71
                have hc71 := hq71 0 (u64V z) (by rw [List.getElem?_drop, Int.toNat_natCast, Nat.mul_one, Nat.add_zero, get_u64 hk', List.getElem_set_self]; rfl)
                rw [add_zero'] at hc71
                refine W.nil ?_
                exact At.step (Ext.refl _) ⟨ad71, rfl, hc71⟩
              refine And.intro ?_ ?_
              · intro L_ wr hX_ hs_ hf_ hd_
                obtain ⟨v2, e2, r2⟩ := hd_ 2 rfl
                obtain ⟨ad2, rfl, hc2⟩ := r2
                refine W.step [(71, _)] (Sub.cons (e2 _ rfl) (Sub.refl _)) ?_
                refine W.load (v := .int .u64 ((z : Nat) : Int)) rfl Try.underlying41 rfl hc2 rfl ?_
                refine W.nil ?_
                exact At.step (Ext.refl _) rfl
              refine And.intro ?_ ?_
              · intro L_ wr hX_ hs_ hf_ hd_
                obtain ⟨v3, e3, r3⟩ := hd_ 3 rfl
                obtain rfl : (.int .u64 ((z : Nat) : Int) : Value) = v3 := Eq.symm r3
                refine W.step [(72, _)] (Sub.cons (e3 _ rfl) (Sub.refl _)) ?_
                refine W.call Try.call18 rfl (Grp.RBase_ok z hzl _) rfl ?_
                rintro v73 w73 ⟨rfl, rfl⟩
                refine W.nil ?_
                exact At.step (Ext.refl _) rfl
              refine And.intro ?_ ?_
              · intro L_ wr hX_ hs_ hf_ hd_
                refine W.step [(11, _)] (Sub.cons (hs_ _ _ rfl) (Sub.refl _)) ?_
                refine W.move rfl rfl ?_
                refine W.nil ?_
                exact At.step (Ext.refl _) rfl
              refine And.intro ?_ ?_
              · intro L_ wr hX_ hs_ hf_ hd_
                refine W.step [(1, _)] (Sub.cons (hs_ _ _ rfl) (Sub.refl _)) ?_
                refine W.move rfl rfl ?_
                refine W.nil ?_
                exact At.step (Ext.refl _) rfl
              refine And.intro ?_ ?_
              · intro L_ wr hX_ hs_ hf_ hd_
                obtain ⟨v5, e5, r5⟩ := hd_ 5 rfl
                obtain rfl : (.slice aP P.length cP : Value) = v5 := Eq.symm r5
                obtain ⟨v6, e6, r6⟩ := hd_ 6 rfl
                obtain rfl : (.int .i64 (k : Int) : Value) = v6 := Eq.symm r6
                refine W.step [(74, _), (75, _)] (Sub.cons (e5 _ rfl) (Sub.cons (e6 _ rfl) (Sub.refl _))) ?_
                refine W.indexE EPub Try.underlying42 rfl (Els.ext rPub hE11 hX_) rfl (by omega) rfl ?_
                rintro ad76 cs76 hc76 hR76 _
                refine W.nil ?_
                exact At.step (Ext.refl _) ⟨ad76, rfl, cs76, hc76, by rw [hR76.2.2.1]; simp [hP, hpk]⟩
              refine And.intro ?_ ?_
              · intro L_ wr hX_ hs_ hf_ hd_
                obtain ⟨v7, e7, r7⟩ := hd_ 7 rfl
                obtain ⟨ad7, rfl, cs7, hc7, hq7⟩ := r7
                refine W.step [(76, _)] (Sub.cons (e7 _ rfl) (Sub.refl _)) ?_
                refine W.fieldAddr (off := 3) (size := 1) (t := 41) (Fld.of (by kernel_rfl)) rfl rfl rfl ?_
                refine W.nil ?_
                exact At.step (Ext.refl _) ⟨ad7.add 3, rfl, hc7 3 _ hq7⟩
              refine And.intro ?_ ?_
              · intro L_ wr hX_ hs_ hf_ hd_
                obtain ⟨v8, e8, r8⟩ := hd_ 8 rfl
                obtain ⟨ad8, rfl, hc8⟩ := r8
                refine W.step [(77, _)] (Sub.cons (e8 _ rfl) (Sub.refl _)) ?_
                refine W.load (v := .int .u64 ((pk : Nat) : Int)) rfl Try.underlying41 rfl hc8 rfl ?_
                refine W.nil ?_
                exact At.step (Ext.refl _) rfl
              refine And.intro ?_ ?_
              · intro L_ wr hX_ hs_ hf_ hd_
                obtain ⟨v4, e4, r4⟩ := hd_ 4 rfl
                obtain rfl : (.int .u64 ((timesV 37 z : Nat) : Int) : Value) = v4 := Eq.symm r4
                obtain ⟨v9, e9, r9⟩ := hd_ 9 rfl
                obtain rfl : (.int .u64 ((pk : Nat) : Int) : Value) = v9 := Eq.symm r9
                refine W.step [(73, _), (78, _)] (Sub.cons (e4 _ rfl) (Sub.cons (e9 _ rfl) (Sub.refl _))) ?_
                refine W.eqlU rfl rfl rfl ?_
                refine W.nil ?_
                exact At.step (Ext.refl _) rfl
              refine And.intro ?_ ?_
              · intro L_ wr hX_ hs_ hf_ hd_
                obtain ⟨v10, e10, r10⟩ := hd_ 10 rfl
                obtain rfl : (.bool (decide (timesV 37 z = pk)) : Value) = v10 := Eq.symm r10
                refine W.step [(79, _)] (Sub.cons (e10 _ rfl) (Sub.refl _)) ?_
                refine W.assign rfl rfl ?_
                refine W.nil ?_
                exact At.step (Ext.refl _) rfl
              exact trivial
            · intro L_ wr hX12 hs_ hv_
              obtain ⟨v11, e11, r11⟩ := hv_ 11 (by decide)
              obtain rfl : (.bool (decide (timesV 37 z = pk)) : Value) = v11 := Eq.symm r11
              refine W.weaken (l' := [(14, _), (0, _), (1, _), (3, _), (10, _), (11, _), (13, _)]) (Sub.cons (e11 _ rfl) (Sub.cons (hs_ _ _ rfl) (Sub.cons (hs_ _ _ rfl) (Sub.cons (hs_ _ _ rfl) (Sub.cons (hs_ _ _ rfl) (Sub.cons (hs_ _ _ rfl) (Sub.cons (hs_ _ _ rfl) (Sub.nil)))))))) ?_
              refine W.nil ?_
              refine At.thenCode ?_
              refine C.seq ?_
              refine C.seq ?_
              by_cases hless : less = true
              · refine C.region ?_
                subst hless
                have hL12 := hL11.xt hX12
                refine W.move rfl rfl ?_
                refine W.nil ?_
                refine At.thenCode ?_
                refine C.condT rfl ?_
                refine C.seq ?_
                refine C.region ?_
                refine W.move rfl rfl ?_
                refine W.slice (lo := 1) (hi := xs.length) U64 Try.underlying30 rfl (by have := hS11.ext hX12; rwa [show (xs.set k z).length = xs.length from List.length_set] at this) (.inr ⟨_, _, rfl, rfl⟩) (.inl ⟨rfl, rfl⟩) (by omega) (by omega) rfl ?_
                intro a82 c82 hs82 hn82
                obtain ⟨zs, hzs⟩ : ∃ zs, zs = (xs.set k z).drop 1 := ⟨_, rfl⟩
                have hzl' : zs.length = xs.length - 1 := by rw [hzs, List.length_drop, List.length_set]
                obtain ⟨sm, hsm⟩ : ∃ sm : Bool, sm = false := ⟨_, rfl⟩
                have hpz : provedB zs (xs.map (timesV 37)) = sm := by rw [hsm]; exact proved_less (by omega)
                have hzb : ∀ x ∈ zs, x < 18446744073709551616 := fun x hx => hzsb x (List.mem_of_mem_drop (hzs ▸ hx))
                have hbm0 : BatM (Fr w (More (fun _ => False) w4 w11)) wr (pB zs) (.slice a82 (xs.length - 1) c82) (.slice none 0 0) := batM_of (by constructor <;> decide) (by constructor <;> decide) ⟨a82, c82, by rw [hzl'], by
                  show Sl _ _ zs.length _ _ _
                  rw [hzl', hzs, List.map_drop]
                  have := hs82
                  rwa [List.take_of_length_le (by simp)] at this, fun ad e _ hq => by
                  obtain ⟨a', e1, e2⟩ := hn82 ad e
                  obtain rfl := Option.some.inj e1
                  rw [e2] at hq
                  exact hy11 hq, hzb⟩ (RSl.nilM _ _ _ _) hzb (fun p hp => by simp at hp) (by omega) (by simp) (fun p hp => by simp at hp)
                refine W.assign rfl rfl ?_
                refine W.nil ?_
                refine At.thenCode ?_
                refine C.region ?_
                refine W.assign rfl rfl ?_
                refine W.nil ?_
                refine At.thenCode ?_
                refine C.seq ?_
                refine C.region ?_
                refine W.move rfl rfl ?_
                refine W.move rfl rfl ?_
                obtain ⟨f1, f2, f3, f4, f5⟩ := proofs_law hn (show zs.length ≤ 20 by omega) hb hzb hpz
                rw [← hP] at f1 f2 f3 f4 f5
                obtain ⟨e1, he1⟩ : ∃ e1, e1 = acceptE (B0 10000) (pB zs) P := ⟨_, rfl⟩
                obtain ⟨e2, he2⟩ : ∃ e2, e2 = acceptE (acceptB (B0 10000) (pB zs) P) (pB xs) P := ⟨_, rfl⟩
                rw [← he1] at f1
                rw [← he2] at f2
                have hl1 := pB_len hzb (show zs.length ≤ 20 by omega)
                have hl2 := pB_len hb hn
                refine W.buildS (fs := _) [(0, 1), (1, 1), (2, 1), (3, 1)] (batC (pB zs) (.slice a82 (xs.length - 1) c82) (.slice none 0 0)) [(.int .i64 0), (.int .i64 0), (.slice none 0 0), (.slice none 0 0)] Try.underlying33 (by kernel_rfl) (by kernel_rfl) rfl rfl rfl ?_
                refine W.move rfl rfl ?_
                refine W.call Try.call11 rfl (hL12.Accept (by decide) (ps := P) hbm0 ((Els.ext rPub hE11 hX12).new rPub fun _ h _ => h.elim) (by omega) (by omega) (Nat.zero_le _) (Nat.zero_le _)) rfl ?_
                rintro v16 w16 ⟨rfl, hL16, hC16⟩
                rw [← he1]
                refine W.assign rfl rfl ?_
                refine W.nil ?_
                refine At.thenCode ?_
                refine C.seq ?_
                refine C.region ?_
                refine W.move rfl rfl ?_
                refine W.move rfl rfl ?_
                refine W.buildS (fs := _) [(0, 1), (1, 1), (2, 1), (3, 1)] (batC (pB xs) (.slice ao xs.length c) (.slice none 0 0)) [(.int .i64 0), (.int .i64 0), (.slice none 0 0), (.slice none 0 0)] Try.underlying33 (by kernel_rfl) (by kernel_rfl) rfl rfl rfl ?_
                refine W.move rfl rfl ?_
                have hbm2 : BatM (Fr w (More (fun _ => False) w4 w11)) w16 (pB xs) (.slice ao xs.length c) (.slice none 0 0) := batM_of (by constructor <;> decide) (by constructor <;> decide) ⟨ao, c, rfl, hS.ext hL16.ext, fun ad e hne hq => by
                  have h1 := hS.blk e (by simpa using hne)
                  have h2 := hq.2
                  omega, hb⟩ (RSl.nilM _ _ _ _) hb (fun p hp => by simp at hp) (by omega) (by simp) (fun p hp => by simp at hp)
                refine W.call Try.call11 rfl (hL16.Accept (by decide) (ps := P) hbm2 (Els.new rPub (Els.chg rPub (Els.ext rPub hE11 hX12) hC16) fun _ h _ => h.elim) (by omega) (by omega) (by omega) (by omega)) rfl ?_
                rintro v17 w17 ⟨rfl, hL17, hC17⟩
                rw [← he2]
                refine W.assign rfl rfl ?_
                refine W.nil ?_
                refine At.thenCode ?_
                refine C.seq ?_
                refine C.seq ?_
                refine C.region ?_
                refine W.move rfl rfl ?_
                refine W.nil ?_
                refine At.thenCode ?_
                refine C.condF rfl ?_
                -- known too
                have q0 : sm = false := by first | exact hsm | (rw [hsm]; exact decide_eq_false c93)
                have q1 : e1 = 10 := by rw [f1, q0]; rfl
                have q2 : e2 = 0 := by rw [f2, q0]; rfl
                refine C.skip ?_
                refine At.thenCode ?_
                refine C.seq ?_
                refine C.region ?_
                refine W.move rfl rfl ?_
                refine W.call Try.call14 rfl (Law23.num_ok _ _) rfl ?_
                rintro v108 w108 ⟨rfl, rfl⟩
                refine W.eqlI rfl rfl rfl ?_
                refine W.eqv (bT (by omega)) ?_
                refine W.move rfl rfl ?_
                refine W.wants rfl rfl rfl rfl ?_
                refine W.move rfl rfl ?_
                refine W.wants rfl rfl rfl rfl ?_
                refine W.call Try.call14 rfl (Law23.num_ok _ _) rfl ?_
                rintro v112 w112 ⟨rfl, rfl⟩
                refine W.wants rfl rfl rfl rfl ?_
                refine W.eqlI rfl rfl rfl ?_
                refine W.eqv (bT (by omega)) ?_
                refine W.pickT rfl rfl rfl ?_
                refine W.move rfl rfl ?_
                refine W.wants rfl rfl rfl rfl ?_
                refine W.move rfl rfl ?_
                refine W.wants rfl rfl rfl rfl ?_
                refine W.call Try.call17 rfl hL17.Len rfl ?_
                rintro v24 w24 ⟨rfl, rfl⟩
                refine W.wants rfl rfl rfl rfl ?_
                refine W.eqlI rfl rfl rfl ?_
                refine W.eqv (bT (by omega)) ?_
                refine W.pickT rfl rfl rfl ?_
                refine W.assign rfl rfl ?_
                refine W.nil ?_
                refine At.thenCode ?_
                refine C.ret ?_
                refine At.ret1 Try.results4 rfl ?_
                first
                | exact ⟨rfl, Ext.below hL17.ext⟩
                | exact ⟨rfl, Ext.below hX17⟩
              · refine C.region ?_
                obtain rfl : less = false := by simpa using hless
                have hL12 := hL11.xt hX12
                refine W.move rfl rfl ?_
                refine W.nil ?_
                refine At.thenCode ?_
                refine C.condF rfl ?_
                refine C.skip ?_
                refine At.thenCode ?_
                refine C.seq ?_
                refine C.region ?_
                obtain ⟨zs, hzs⟩ : ∃ zs, zs = xs.set k z := ⟨_, rfl⟩
                have hzl' : zs.length = xs.length := by rw [hzs, List.length_set]
                obtain ⟨sm, hsm⟩ : ∃ sm : Bool, sm = decide (timesV 37 z = pk) := ⟨_, rfl⟩
                have hpz : provedB zs (xs.map (timesV 37)) = sm := by rw [hsm, hzs, hpk]; exact proved_set hk
                rw [← hzs] at hzsb hS11
                have hzb := hzsb
                have hbm0 : BatM (Fr w (More (fun _ => False) w4 w11)) wr (pB zs) (.slice (some ⟨g59, 0, none⟩) xs.length c59) (.slice none 0 0) := batM_of (by constructor <;> decide) (by constructor <;> decide) ⟨_, c59, by rw [hzl'], hS11.ext hX12, fun ad e _ hq => by
                  obtain rfl := Option.some.inj e
                  exact hy11 hq, hzb⟩ (RSl.nilM _ _ _ _) hzb (fun p hp => by simp at hp) (by omega) (by simp) (fun p hp => by simp at hp)
                refine W.move rfl rfl ?_
                refine W.move rfl rfl ?_
                obtain ⟨f1, f2, f3, f4, f5⟩ := proofs_law hn (show zs.length ≤ 20 by omega) hb hzb hpz
                rw [← hP] at f1 f2 f3 f4 f5
                obtain ⟨e1, he1⟩ : ∃ e1, e1 = acceptE (B0 10000) (pB zs) P := ⟨_, rfl⟩
                obtain ⟨e2, he2⟩ : ∃ e2, e2 = acceptE (acceptB (B0 10000) (pB zs) P) (pB xs) P := ⟨_, rfl⟩
                rw [← he1] at f1
                rw [← he2] at f2
                have hl1 := pB_len hzb (show zs.length ≤ 20 by omega)
                have hl2 := pB_len hb hn
                refine W.buildS (fs := _) [(0, 1), (1, 1), (2, 1), (3, 1)] (batC (pB zs) (.slice (some ⟨g59, 0, none⟩) xs.length c59) (.slice none 0 0)) [(.int .i64 0), (.int .i64 0), (.slice none 0 0), (.slice none 0 0)] Try.underlying33 (by kernel_rfl) (by kernel_rfl) rfl rfl rfl ?_
                refine W.move rfl rfl ?_
                refine W.call Try.call11 rfl (hL12.Accept (by decide) (ps := P) hbm0 ((Els.ext rPub hE11 hX12).new rPub fun _ h _ => h.elim) (by omega) (by omega) (Nat.zero_le _) (Nat.zero_le _)) rfl ?_
                rintro v16 w16 ⟨rfl, hL16, hC16⟩
                rw [← he1]
                refine W.assign rfl rfl ?_
                refine W.nil ?_
                refine At.thenCode ?_
                refine C.seq ?_
                refine C.region ?_
                refine W.move rfl rfl ?_
                refine W.move rfl rfl ?_
                refine W.buildS (fs := _) [(0, 1), (1, 1), (2, 1), (3, 1)] (batC (pB xs) (.slice ao xs.length c) (.slice none 0 0)) [(.int .i64 0), (.int .i64 0), (.slice none 0 0), (.slice none 0 0)] Try.underlying33 (by kernel_rfl) (by kernel_rfl) rfl rfl rfl ?_
                refine W.move rfl rfl ?_
                have hbm2 : BatM (Fr w (More (fun _ => False) w4 w11)) w16 (pB xs) (.slice ao xs.length c) (.slice none 0 0) := batM_of (by constructor <;> decide) (by constructor <;> decide) ⟨ao, c, rfl, hS.ext hL16.ext, fun ad e hne hq => by
                  have h1 := hS.blk e (by simpa using hne)
                  have h2 := hq.2
                  omega, hb⟩ (RSl.nilM _ _ _ _) hb (fun p hp => by simp at hp) (by omega) (by simp) (fun p hp => by simp at hp)
                refine W.call Try.call11 rfl (hL16.Accept (by decide) (ps := P) hbm2 (Els.new rPub (Els.chg rPub (Els.ext rPub hE11 hX12) hC16) fun _ h _ => h.elim) (by omega) (by omega) (by omega) (by omega)) rfl ?_
                rintro v17 w17 ⟨rfl, hL17, hC17⟩
                rw [← he2]
                refine W.assign rfl rfl ?_
                refine W.nil ?_
                refine At.thenCode ?_
                refine C.seq ?_
                refine C.seq ?_
                refine C.region ?_
                refine W.move rfl rfl ?_
                refine W.nil ?_
                refine At.thenCode ?_
                first | refine C.condD rfl (fun c93 => ?_) (fun c93 => ?_) | refine C.cond rfl (fun c93 => ?_) (fun c93 => ?_)
                · have q0 : sm = true := by rw [hsm]; exact decide_eq_true c93
                  have q1 : e1 = 0 := by rw [f1, q0]; rfl
                  have q2 : e2 = 11 := by rw [f2, q0]; rfl
                  refine C.seq ?_
                  refine C.region ?_
                  refine W.move rfl rfl ?_
                  refine W.call Try.call14 rfl (Law23.num_ok _ _) rfl ?_
                  rintro v95 w95 ⟨rfl, rfl⟩
                  refine W.eqlI rfl rfl rfl ?_
                  refine W.eqv (bT (by omega)) ?_
                  refine W.move rfl rfl ?_
                  refine W.wants rfl rfl rfl rfl ?_
                  refine W.move rfl rfl ?_
                  refine W.wants rfl rfl rfl rfl ?_
                  refine W.call Try.call14 rfl (Law23.num_ok _ _) rfl ?_
                  rintro v99 w99 ⟨rfl, rfl⟩
                  refine W.wants rfl rfl rfl rfl ?_
                  refine W.eqlI rfl rfl rfl ?_
                  refine W.eqv (bT (by omega)) ?_
                  refine W.pickT rfl rfl rfl ?_
                  refine W.move rfl rfl ?_
                  refine W.wants rfl rfl rfl rfl ?_
                  refine W.move rfl rfl ?_
                  refine W.wants rfl rfl rfl rfl ?_
                  refine W.call Try.call17 rfl hL17.Len rfl ?_
                  rintro v24 w24 ⟨rfl, rfl⟩
                  refine W.wants rfl rfl rfl rfl ?_
                  refine W.eqlI rfl rfl rfl ?_
                  refine W.eqv (bT (by omega)) ?_
                  refine W.pickT rfl rfl rfl ?_
                  refine W.assign rfl rfl ?_
                  refine W.nil ?_
                  refine At.thenCode ?_
                  refine C.ret ?_
                  refine At.thenRet ?_
                  refine At.ret1 Try.results4 rfl ?_
                  first
                  | exact ⟨rfl, Ext.below hL17.ext⟩
                  | exact ⟨rfl, Ext.below hX17⟩
                · -- known too
                  have q0 : sm = false := by first | exact hsm | (rw [hsm]; exact decide_eq_false c93)
                  have q1 : e1 = 10 := by rw [f1, q0]; rfl
                  have q2 : e2 = 0 := by rw [f2, q0]; rfl
                  refine C.skip ?_
                  refine At.thenCode ?_
                  refine C.seq ?_
                  refine C.region ?_
                  refine W.move rfl rfl ?_
                  refine W.call Try.call14 rfl (Law23.num_ok _ _) rfl ?_
                  rintro v108 w108 ⟨rfl, rfl⟩
                  refine W.eqlI rfl rfl rfl ?_
                  refine W.eqv (bT (by omega)) ?_
                  refine W.move rfl rfl ?_
                  refine W.wants rfl rfl rfl rfl ?_
                  refine W.move rfl rfl ?_
                  refine W.wants rfl rfl rfl rfl ?_
                  refine W.call Try.call14 rfl (Law23.num_ok _ _) rfl ?_
                  rintro v112 w112 ⟨rfl, rfl⟩
                  refine W.wants rfl rfl rfl rfl ?_
                  refine W.eqlI rfl rfl rfl ?_
                  refine W.eqv (bT (by omega)) ?_
                  refine W.pickT rfl rfl rfl ?_
                  refine W.move rfl rfl ?_
                  refine W.wants rfl rfl rfl rfl ?_
                  refine W.move rfl rfl ?_
                  refine W.wants rfl rfl rfl rfl ?_
                  refine W.call Try.call17 rfl hL17.Len rfl ?_
                  rintro v24 w24 ⟨rfl, rfl⟩
                  refine W.wants rfl rfl rfl rfl ?_
                  refine W.eqlI rfl rfl rfl ?_
                  refine W.eqv (bT (by omega)) ?_
                  refine W.pickT rfl rfl rfl ?_
                  refine W.assign rfl rfl ?_
                  refine W.nil ?_
                  refine At.thenCode ?_
                  refine C.ret ?_
                  refine At.ret1 Try.results4 rfl ?_
                  first
                  | exact ⟨rfl, Ext.below hL17.ext⟩
                  | exact ⟨rfl, Ext.below hX17⟩
end Go.Proofs.Ythiijdbiikljpaa.Law23
