/- Package mailbox: letting rounds go. -/
import Derived.Test.YthiijdbiikljpaaMb8
namespace Go.Proofs.Ythiijdbiikljpaa.Mbx
open Go Go.RowKit Go.Proofs.Ythiijdbiikljpaa.KW Go.Proofs.Ythiijdbiikljpaa.Words Go.Proofs.Ythiijdbiikljpaa.Sha Go.Proofs.Ythiijdbiikljpaa.RSha Go.Proofs.Ythiijdbiikljpaa.Grp Go.Proofs.Ythiijdbiikljpaa.Cod Go.Proofs.Ythiijdbiikljpaa.Disk
set_option linter.unusedVariables false
set_option linter.unusedSimpArgs false
set_option maxRecDepth 100000
theorem filter_lt {α : Type} {p q : α → Bool} : ∀ {l : List α}, (∀ x ∈ l, q x = true → p x = true) → ∀ {a : α}, a ∈ l → p a = true → q a = false → (l.filter q).length < (l.filter p).length := by
  intro l
  induction l with
  | nil => intro _ a ha; simp at ha
  | cons x t ih =>
    intro h a ha hp hq
    have hle : ∀ (t : List α), (∀ x ∈ t, q x = true → p x = true) → (t.filter q).length ≤ (t.filter p).length := by
      intro t ht
      induction t with
      | nil => simp
      | cons y r ihr =>
        have h1 := ihr fun z hz => ht z (by simp [hz])
        have h2 := ht y (by simp)
        by_cases hqy : q y = true
        · rw [List.filter_cons_of_pos hqy, List.filter_cons_of_pos (h2 hqy)]; simpa using h1
        · rw [List.filter_cons_of_neg hqy]
          by_cases hpy : p y = true
          · rw [List.filter_cons_of_pos hpy]; simp; omega
          · rw [List.filter_cons_of_neg hpy]; exact h1
    have ht : ∀ z ∈ t, q z = true → p z = true := fun z hz => h z (by simp [hz])
    rcases List.mem_cons.1 ha with rfl | ha
    · rw [List.filter_cons_of_neg (by simp [hq]), List.filter_cons_of_pos hp]
      have := hle t ht
      simp; omega
    · have h1 := ih ht ha hp hq
      have h2 := h x (by simp)
      by_cases hqx : q x = true
      · rw [List.filter_cons_of_pos hqx, List.filter_cons_of_pos (h2 hqx)]; simpa using h1
      · rw [List.filter_cons_of_neg hqx]
        by_cases hpx : p x = true
        · rw [List.filter_cons_of_pos hpx]; simp; omega
        · rw [List.filter_cons_of_neg hpx]; exact h1
theorem has_push (seen : Array Nat) (b x : Nat) : (seen.push b).contains x = (seen.contains x || decide (x = b)) := by
  rw [Bool.eq_iff_iff]
  simp [Array.mem_push]
/-- The round that a key of the map of places bears; the name that a key of the map of letters is. -/
def roundK : Value → Int
  | .agg cs => (match cs.toList with
    | (.int _ a) :: _ => a
    | _ => 0)
  | _ => 0
theorem roundK_place (r c : Int) : roundK (placeV r c) = r := rfl
def nameK : Value → List UInt8
  | .agg cs => cs.toList.map fun v => match v with
    | .int _ a => UInt8.ofNat a.toNat
    | _ => 0
  | _ => []
theorem nameK_key (k : List UInt8) : nameK (keyV k) = k := by
  unfold keyV nameK
  simp only [List.map_map]
  conv => rhs; rw [← List.map_id k]
  apply List.map_congr_left
  intro b _
  simp [byteV]
def stayE (r : Nat) (e : MapEntry) : Bool := decide ((r : Int) ≤ roundK e.key)
def restE (seen : Array Nat) (r : Nat) (es : List MapEntry) : List MapEntry := es.filter fun e => !seen.contains e.born || stayE r e
def AllSeen (seen : Array Nat) (es : List MapEntry) : Prop := ∀ e ∈ es, seen.contains e.born = true
def leftE (seen : Array Nat) (es : List MapEntry) : List MapEntry := es.filter fun e => !seen.contains e.born
theorem AM.gone {l : List BatD} {es : List MapEntry} (h : es.map (fun e => (e.key, e.val)) = l.map (fun x => (placeV x.round x.chain, Value.bool true))) (r : Nat) : (es.filter (stayE r)).map (fun e => (e.key, e.val)) = (goneL l r).map (fun x => (placeV x.round x.chain, Value.bool true)) := by
  have h1 : (es.filter (stayE r)).map (fun e => (e.key, e.val)) = (es.map (fun e => (e.key, e.val))).filter (fun p => decide ((r : Int) ≤ roundK p.1)) := by
    rw [List.filter_map]; rfl
  rw [h1, h, List.filter_map]
  rfl
/-- What a name's row has become. -/
def doneB (es : List MapEntry) (seen : Array Nat) (name : List UInt8) : Bool := es.any fun e => decide (nameK e.key = name) && seen.contains e.born
def partF (es : List MapEntry) (seen : Array Nat) (r : Int) (f : Hs) : Hs := fun name => if doneB es seen name = true then keepR r (f name) else f name
theorem LM.congr {w : World} {F Z X : Nat → Prop} {b : Nat} {f f' : Hs} {es : List MapEntry} {clock : Nat} (h : LM w F Z X b f es clock) (he : ∀ name, name.length = 32 → f name = f' name) : LM w F Z X b f' es clock :=
  ⟨h.mp, fun e hm => by obtain ⟨name, n1, n2, n3⟩ := h.sound e hm; exact ⟨name, n1, n2, by rw [← he name n1]; exact n3⟩, fun name n1 n2 => h.whole name n1 (by rw [he name n1]; exact n2), h.rows, h.apart⟩
def stamps (es : List MapEntry) : List (Value × Nat) := es.map fun e => (e.key, e.born)
theorem stamps_set {es : List MapEntry} {j : Nat} {e : MapEntry} (hj : es[j]? = some e) (v : Value) : stamps (es.set j ⟨e.key, v, e.born⟩) = stamps es := by
  obtain ⟨h, rfl⟩ := List.getElem?_eq_some_iff.1 hj
  unfold stamps
  apply List.ext_getElem (by simp)
  intro i h1 h2
  rw [List.getElem_map, List.getElem_map, List.getElem_set]
  split
  · rename_i h3; subst h3; rfl
  · rfl
theorem stamps_mem {es es' : List MapEntry} (h : stamps es' = stamps es) {e : MapEntry} (he : e ∈ es') : ∃ e0 ∈ es, e0.key = e.key ∧ e0.born = e.born := by
  have h1 : (e.key, e.born) ∈ stamps es := by rw [← h]; exact List.mem_map.2 ⟨e, he, rfl⟩
  obtain ⟨e0, h2, h3⟩ := List.mem_map.1 h1
  injection h3 with h4 h5
  exact ⟨e0, h2, h4, h5⟩
theorem doneB_push {P : Program} {kt : TypeId} {w : World} {b clock : Nat} {es : List MapEntry} {seen : Array Nat} {e0 : MapEntry} {k : List UInt8} (hm : Mp P kt w b es clock) (he : e0 ∈ es) (hk : e0.key = keyV k) (hn : ∀ e ∈ es, ∃ name, e.key = keyV name) :
    (∀ name, doneB es (seen.push e0.born) name = (doneB es seen name || decide (name = k))) ∧ (seen.contains e0.born = false → doneB es seen k = false) := by
  have huq : ∀ e ∈ es, (e.born = e0.born ↔ e = e0) ∧ (nameK e.key = k → e = e0) := by
    intro e hm'
    obtain ⟨i, hi⟩ := List.mem_iff_getElem?.1 hm'
    obtain ⟨j, hj⟩ := List.mem_iff_getElem?.1 he
    refine ⟨⟨fun h => ?_, fun h => by rw [h]⟩, fun h => ?_⟩
    · have := hm.uniqB hi hj h
      subst this
      exact Option.some.inj (hi.symm.trans hj)
    · obtain ⟨name, hname⟩ := hn e hm'
      rw [hname, nameK_key] at h
      subst h
      have := hm.uniq hi hj (hname.trans hk.symm)
      subst this
      exact Option.some.inj (hi.symm.trans hj)
  refine ⟨fun name => ?_, fun hs => ?_⟩
  · unfold doneB
    rw [Bool.eq_iff_iff]
    simp only [List.any_eq_true, Bool.or_eq_true, Bool.and_eq_true, decide_eq_true_eq, has_push]
    constructor
    · rintro ⟨e, h1, h2, h3⟩
      rcases h3 with h3 | h3
      · exact .inl ⟨e, h1, h2, h3⟩
      · have := (huq e h1).1.1 h3
        subst this
        rw [hk, nameK_key] at h2
        exact .inr h2.symm
    · rintro (⟨e, h1, h2, h3⟩ | rfl)
      · exact ⟨e, h1, h2, .inl h3⟩
      · exact ⟨e0, he, by rw [hk, nameK_key], .inr rfl⟩
  · unfold doneB
    rw [Bool.eq_false_iff]
    intro h
    obtain ⟨e, h1, h2⟩ := List.any_eq_true.1 h
    simp only [Bool.and_eq_true, decide_eq_true_eq] at h2
    have := (huq e h1).2 h2.1
    subst this
    rw [hs] at h2
    cases h2.2
theorem expire_ok (F : Nat → Prop) (g dg : Nat) (s : Bag) (o : Option Nat) (r : Nat) (w : World) (hS : St w F g dg s o) (hr : r ≤ 1099511627776) (hsl : s.l.length ≤ 1000000000) :
    Ct Try.prog 35 #[.pointer (some ⟨g, 0, none⟩), .int .i64 (r : Int)] w (fun v w' => ∃ F' : Nat → Prop, St w' F' g dg (goneS s r) o ∧ (∀ k, F k → F' k) ∧ (∀ k, F' k → F k ∨ w.heap.size ≤ k) ∧ Chg F w w') := by
  obtain ⟨mg, lg, X, es1, c1, es2, c2, h1, h2, h3, h4, h5⟩ := hS.out
  have hlt := hS.lt
  have hgF := hS.own
  have hmF : F mg := h4.zf _ (.inr (.inl rfl))
  have hlF : F lg := h4.zf _ (.inr (.inr rfl))
  have hZl : Zof g mg lg lg := .inr (.inr rfl)
  have hZm : Zof g mg lg mg := .inr (.inl rfl)
  have hZg : Zof g mg lg g := .inl rfl
  have hold : ∀ name, (heldL s.l name).length ≤ 1000000000000 := fun name => by
    have := heldL_len (l := s.l) (m := 1000) (fun y hy => (batE_small (hS.ok.1 y hy).2).2.1) name
    omega
  refine Ct.enter [(0, .pointer (some ⟨g, 0, none⟩)), (1, .int .i64 (r : Int))] Try.func35 rfl rfl rfl rfl ?_
  refine C.seq ?_
  refine C.region ?_
  refine W.box [.int .i64 (r : Int)] rfl rfl rfl ?_
  intro g3 w3 hg3 hX3 hB3
  have h1b : Bk w3 g [.pointer (some ⟨dg, 0, none⟩), .map (some mg), .map (some lg), .int .i64 (s.past : Int), .int .i64 (owedI o)] := h1.ext hX3
  refine W.nil ?_
  refine At.thenCode ?_
  refine C.seq ?_
  refine C.seq ?_
  refine C.regionAny 6 ((fun v w => v = .int .i64 (r : Int)) :: (fun v w => v = .pointer (some ⟨g, 0, none⟩)) :: (fun v w => v = .pointer (some ⟨g, 0, none⟩)) :: (fun v w => v = .pointer (some ⟨g, 3, none⟩)) :: (fun v w => v = .int .i64 (s.past : Int)) :: (fun v w => v = .bool (decide ((r : Int) ≤ (s.past : Int)))) :: []) [(0, .pointer (some ⟨g, 0, none⟩)), (3, .pointer (some ⟨g3, 0, none⟩))] [] (Sub.cons (rfl) (Sub.cons (rfl) (Sub.nil))) (Sub.nil) (Sub.cons (rfl) (Sub.cons (rfl) (Sub.nil))) (by kernel_rfl) rfl rfl rfl (And.intro (fun _ _ _ h _ => h) (And.intro (fun _ _ _ h _ => h) (And.intro (fun _ _ _ h _ => h) (And.intro (fun _ _ _ h _ => h) (And.intro (fun _ _ _ h _ => h) (And.intro (fun _ _ _ h _ => h) (trivial))))))) ?_ ?_
  · refine And.intro ?_ ?_
    · intro L_ wr hX_ hs_ hf_ hd_
      refine W.step [(3, _)] (Sub.cons (hs_ _ _ rfl) (Sub.refl _)) ?_
      refine W.loadB (v := .int .i64 (r : Int)) rfl Try.underlying3 rfl (hB3.ext hX_) rfl rfl ?_
      refine W.nil ?_
      exact At.step (Ext.refl _) rfl
    refine And.intro ?_ ?_
    · intro L_ wr hX_ hs_ hf_ hd_
      refine W.step [(0, _)] (Sub.cons (hs_ _ _ rfl) (Sub.refl _)) ?_
      refine W.move rfl rfl ?_
      refine W.nil ?_
      exact At.step (Ext.refl _) rfl
    refine And.intro ?_ ?_
    · intro L_ wr hX_ hs_ hf_ hd_
      obtain ⟨v1, e1, r1⟩ := hd_ 1 rfl
      obtain rfl : (.pointer (some ⟨g, 0, none⟩) : Value) = v1 := Eq.symm r1
      refine W.step [(8, _)] (Sub.cons (e1 _ rfl) (Sub.refl _)) ?_
      refine W.nilCheck rfl rfl ?_
      refine W.nil ?_
      exact At.step (Ext.refl _) rfl
    refine And.intro ?_ ?_
    · intro L_ wr hX_ hs_ hf_ hd_
      obtain ⟨v2, e2, r2⟩ := hd_ 2 rfl
      obtain rfl : (.pointer (some ⟨g, 0, none⟩) : Value) = v2 := Eq.symm r2
      refine W.step [(9, _)] (Sub.cons (e2 _ rfl) (Sub.refl _)) ?_
      refine W.fieldB (off := 3) (size := 1) (t := 3) (Fld.of (by kernel_rfl)) rfl rfl rfl ?_
      refine W.nil ?_
      exact At.step (Ext.refl _) rfl
    refine And.intro ?_ ?_
    · intro L_ wr hX_ hs_ hf_ hd_
      obtain ⟨v3, e3, r3⟩ := hd_ 3 rfl
      obtain rfl : (.pointer (some ⟨g, 3, none⟩) : Value) = v3 := Eq.symm r3
      refine W.step [(10, _)] (Sub.cons (e3 _ rfl) (Sub.refl _)) ?_
      refine W.loadB (v := .int .i64 (s.past : Int)) rfl Try.underlying3 rfl (h1b.ext hX_) rfl rfl ?_
      refine W.nil ?_
      exact At.step (Ext.refl _) rfl
    refine And.intro ?_ ?_
    · intro L_ wr hX_ hs_ hf_ hd_
      obtain ⟨v0, e0, r0⟩ := hd_ 0 rfl
      obtain rfl : (.int .i64 (r : Int) : Value) = v0 := Eq.symm r0
      obtain ⟨v4, e4, r4⟩ := hd_ 4 rfl
      obtain rfl : (.int .i64 (s.past : Int) : Value) = v4 := Eq.symm r4
      refine W.step [(7, _), (11, _)] (Sub.cons (e0 _ rfl) (Sub.cons (e4 _ rfl) (Sub.refl _))) ?_
      refine W.leqI rfl rfl rfl ?_
      refine W.nil ?_
      exact At.step (Ext.refl _) rfl
    exact trivial
  · intro L_ wr hX1 hs_ hv_
    obtain ⟨v5, e5, r5⟩ := hv_ 5 (by decide)
    obtain rfl : (.bool (decide ((r : Int) ≤ (s.past : Int))) : Value) = v5 := Eq.symm r5
    refine W.weaken (l' := [(12, _), (0, _), (3, _)]) (Sub.cons (e5 _ rfl) (Sub.cons (hs_ _ _ rfl) (Sub.cons (hs_ _ _ rfl) (Sub.nil)))) ?_
    refine W.nil ?_
    refine At.thenCode ?_
    first | refine C.condD rfl (fun c12 => ?_) (fun c12 => ?_) | refine C.cond rfl (fun c12 => ?_) (fun c12 => ?_)
    · refine C.ret ?_
      refine At.thenRet ?_
      refine At.ret0 Try.results35 ?_
      have hgs : goneS s r = s := by unfold goneS; rw [if_pos (by omega)]
      rw [hgs]
      exact ⟨F, hS.ext (hX3.ext hX1), fun k hk => hk, fun k hk => .inl hk, (hX3.ext hX1).mono fun _ c => c.elim⟩
    · have hpast : s.past < r := by omega
      have hX1' := hX3.ext hX1
      have hB3a := hB3.ext hX1
      have h1c : Bk wr g [.pointer (some ⟨dg, 0, none⟩), .map (some mg), .map (some lg), .int .i64 (s.past : Int), .int .i64 (owedI o)] := h1b.ext hX1
      have hlt3 := hB3a.lt
      refine C.skip ?_
      refine At.thenCode ?_
      refine C.seq ?_
      refine C.region ?_
      refine W.move rfl rfl ?_
      refine W.loadB (v := .int .i64 (r : Int)) rfl Try.underlying3 rfl hB3a rfl rfl ?_
      refine W.nilCheck rfl rfl ?_
      refine W.fieldB (off := 3) (size := 1) (t := 3) (Fld.of (by kernel_rfl)) rfl rfl rfl ?_
      refine W.store1 rfl rfl rfl h1c (by simp) (by kernel_rfl) ?_
      intro w4 hC4 hB4
      have hB4 : Bk w4 g [.pointer (some ⟨dg, 0, none⟩), .map (some mg), .map (some lg), .int .i64 (r : Int), .int .i64 (owedI o)] := hB4
      have hs4 := hC4.size
      have hg3F : ¬ F g3 := fun hF => by have := hlt _ hF; omega
      have hB3b : Bk w4 g3 [.int .i64 (r : Int)] := hB3a.chg hC4 (fun e => hg3F (by rw [e]; exact hgF))
      have hC4w : Chg F w w4 := (hX1'.mono fun _ c => c.elim).trans (hC4.mono fun k hk => by subst hk; exact hgF)
      have hA4 : AM w4 mg s.l es1 c1 := (h2.chg hX1' (fun c => c)).chg hC4 h5.1.symm
      have hL4 : LM w4 F (Zof g mg lg) X lg (heldL s.l) es2 c2 := (h3.keep h4 hX1' (fun _ c => c.elim) (fun c => c)).keep (h4.mono hX1'.size) hC4 (fun k hk => .inl (by subst hk; exact hZg)) h5.2.1.symm
      have hS4 := h4.mono hC4w.size
      refine W.nil ?_
      refine At.thenCode ?_
      refine C.seq ?_
      refine C.seq ?_
      refine C.region ?_
      refine W.move rfl rfl ?_
      refine W.nilCheck rfl rfl ?_
      refine W.fieldB (off := 1) (size := 1) (t := 68) (Fld.of (by kernel_rfl)) rfl rfl rfl ?_
      refine W.loadB (v := .map (some mg)) rfl Try.underlying68 rfl hB4 rfl rfl ?_
      refine W.rangeM Try.underlying68 rfl hA4.mp rfl ?_
      intro r1 w5 hr1 hX5 hI5
      have hs5 := hX5.size
      have hgB5 := hB4.ext hX5
      have hB3c := hB3b.ext hX5
      have hr1F : ¬ F r1 := fun hF => by have := hS4.lt _ hF; omega
      have hr1g3 : r1 ≠ g3 := fun e => by have := hB3b.lt; omega
      have hr1lt := hI5.lt
      refine W.nil ?_
      refine At.thenCode ?_
      refine C.block ?_
      refine C.loop (X := (Array Nat) × Nat) (fun x_ => [(0, .pointer (some ⟨g, 0, none⟩)), (3, .pointer (some ⟨g3, 0, none⟩)), (21, .pointer (some ⟨r1, 0, none⟩))]) (fun x_ w1 => Chg (fun k => k = mg ∨ k = r1) w5 w1 ∧ Mp Try.prog 83 w1 mg (restE x_.1 r es1) c1 ∧ It w1 r1 mg c1 x_.1 x_.2) (fun x_ => (leftE x_.1 es1).length) (#[], c1) (Sub.cons (rfl) (Sub.cons (rfl) (Sub.cons (rfl) (Sub.nil)))) ?start1 ?_
      case start1 =>
        show Chg (fun k => k = mg ∨ k = r1) w5 _ ∧ Mp Try.prog 83 _ mg (restE (#[]) r es1) c1 ∧ It _ r1 mg c1 (#[]) (c1)

        refine ⟨Chg.refl _ _, ?_, hI5⟩
        have : restE #[] r es1 = es1 := List.filter_eq_self.2 fun e _ => by simp
        rw [this]; exact hA4.mp.ext hX5
      rintro ⟨seen, cc⟩ w1 hI_
      replace hI_ : Chg (fun k => k = mg ∨ k = r1) w5 w1 ∧ Mp Try.prog 83 w1 mg (restE seen r es1) c1 ∧ It w1 r1 mg c1 seen cc := hI_
      obtain ⟨hC1, hM1, hI1⟩ := hI_
      refine C.weaken (l' := [(0, .pointer (some ⟨g, 0, none⟩)), (3, .pointer (some ⟨g3, 0, none⟩)), (21, .pointer (some ⟨r1, 0, none⟩))]) (Sub.cons (rfl) (Sub.cons (rfl) (Sub.cons (rfl) (Sub.nil)))) ?_
      have hs1 := hC1.size
      have hg1 := hgB5.chg hC1 (by rintro (h | h); exact h5.1 h; exact hr1F (by rw [← h]; exact hgF))
      have hB31 := hB3c.chg hC1 (by rintro (h | h); exact hg3F (by rw [h]; exact hmF); exact hr1g3 h.symm)
      refine C.seq ?_
      by_cases hdone : AllSeen seen (restE seen r es1)
      · refine C.region ?_
        refine W.nextM rfl hI1 hM1 rfl (fun _ => ?_) (fun j e w' hj hs _ _ => absurd (hdone e (List.mem_of_getElem? hj)) (by rw [hs]; decide))
        have hE1 : restE seen r es1 = es1.filter (stayE r) := by
          unfold restE
          apply List.filter_congr
          intro x hx
          cases hsx : seen.contains x.born with
          | true => simp
          | false =>
            have hin : x ∈ restE seen r es1 := List.mem_filter.2 ⟨hx, by rw [hsx]; rfl⟩
            rw [hdone x hin] at hsx
            cases hsx
        have hA1 : AM w1 mg (goneL s.l r) (es1.filter (stayE r)) c1 := ⟨by rw [← hE1]; exact hM1, AM.gone hA4.are r⟩
        have hlr1 : lg ≠ r1 := fun e => hr1F (by rw [← e]; exact hlF)
        have hL1 : LM w1 F (Zof g mg lg) X lg (heldL s.l) es2 c2 := (hL4.keep hS4 hX5 (fun _ c => c.elim) (fun c => c)).keep (hS4.mono hs5) hC1 (fun k hk => hk.elim (fun e => .inl (by subst e; exact hZm)) (fun e => .inr (by subst e; exact hr1F))) (by rintro (h | h); exact h5.2.2 h.symm; exact hlr1 h)
        have hSt1 := hS4.mono (Nat.le_trans hs5 hs1)
        refine W.extract rfl rfl rfl ?_
        refine W.nil ?_
        refine At.thenCode ?_
        refine C.seq ?_
        refine C.condF rfl ?_
        refine C.exit ?_
        refine At.thenExit ?_
        refine At.thenExit ?_
        refine At.blockSelf ?_
        refine At.thenCode ?_
        refine C.seq ?_
        refine C.region ?_
        refine W.move rfl rfl ?_
        refine W.nilCheck rfl rfl ?_
        refine W.fieldB (off := 2) (size := 1) (t := 69) (Fld.of (by kernel_rfl)) rfl rfl rfl ?_
        refine W.loadB (v := .map (some lg)) rfl Try.underlying69 rfl hg1 rfl rfl ?_
        refine W.rangeM Try.underlying69 rfl hL1.mp rfl ?_
        intro r2 w9 hr2 hX9 hI9
        have hs9 := hX9.size
        have hr2lt := hI9.lt
        have hr2F : ¬ F r2 := fun hF => by have := hSt1.lt _ hF; omega
        have hr2g3 : g3 ≠ r2 := fun e => by have := hB31.lt; omega
        have hB39 := hB31.ext hX9
        refine W.nil ?_
        refine At.thenCode ?_
        refine C.block ?_
        refine C.loop (X := (Array Nat) × Nat) (fun x_ => [(0, .pointer (some ⟨g, 0, none⟩)), (3, .pointer (some ⟨g3, 0, none⟩)), (39, .pointer (some ⟨r2, 0, none⟩))]) (fun x_ wb => ∃ (F1 X1 : Nat → Prop) (E : List MapEntry), (∀ k, F k → F1 k) ∧ (∀ k, F1 k → F k ∨ w9.heap.size ≤ k) ∧ Chg (fun k => F k ∨ k = r2) w9 wb ∧ Bk wb g (stC dg mg lg r o) ∧ AM wb mg (goneL s.l r) (es1.filter (stayE r)) c1 ∧ LM wb F1 (Zof g mg lg) X1 lg (partF es2 x_.1 r (heldL s.l)) E c2 ∧ Sets wb F1 (Zof g mg lg) X1 ∧ It wb r2 lg c2 x_.1 x_.2 ∧ stamps E = stamps es2) (fun x_ => (leftE x_.1 es2).length) (#[], c2) (Sub.cons (rfl) (Sub.cons (rfl) (Sub.cons (rfl) (Sub.nil)))) ?start2 ?_
        case start2 =>
          show ∃ (F1 X1 : Nat → Prop) (E : List MapEntry), (∀ k, F k → F1 k) ∧ (∀ k, F1 k → F k ∨ w9.heap.size ≤ k) ∧ Chg (fun k => F k ∨ k = r2) w9 _ ∧ Bk _ g (stC dg mg lg r o) ∧ AM _ mg (goneL s.l r) (es1.filter (stayE r)) c1 ∧ LM _ F1 (Zof g mg lg) X1 lg (partF es2 (#[]) r (heldL s.l)) E c2 ∧ Sets _ F1 (Zof g mg lg) X1 ∧ It _ r2 lg c2 (#[]) (c2) ∧ stamps E = stamps es2

          refine ⟨F, X, es2, fun k hk => hk, fun k hk => .inl hk, Chg.refl _ _, hg1.ext hX9, hA1.chg hX9 (fun c => c), ?_, hSt1.mono hs9, hI9, rfl⟩
          have : partF es2 #[] r (heldL s.l) = heldL s.l := by
            funext name
            unfold partF
            rw [if_neg]
            unfold doneB
            simp
          rw [this]
          exact hL1.keep hSt1 hX9 (fun _ c => c.elim) (fun c => c)
        rintro ⟨seen2, cc2⟩ wb hI_
        replace hI_ : ∃ (F1 X1 : Nat → Prop) (E : List MapEntry), (∀ k, F k → F1 k) ∧ (∀ k, F1 k → F k ∨ w9.heap.size ≤ k) ∧ Chg (fun k => F k ∨ k = r2) w9 wb ∧ Bk wb g (stC dg mg lg r o) ∧ AM wb mg (goneL s.l r) (es1.filter (stayE r)) c1 ∧ LM wb F1 (Zof g mg lg) X1 lg (partF es2 seen2 r (heldL s.l)) E c2 ∧ Sets wb F1 (Zof g mg lg) X1 ∧ It wb r2 lg c2 seen2 cc2 ∧ stamps E = stamps es2 := hI_
        obtain ⟨F1, X1, E, hF1, hF1', hCb, hgb, hAb, hLb, hStb, hIb, hEs⟩ := hI_
        refine C.weaken (l' := [(0, .pointer (some ⟨g, 0, none⟩)), (3, .pointer (some ⟨g3, 0, none⟩)), (39, .pointer (some ⟨r2, 0, none⟩))]) (Sub.cons (rfl) (Sub.cons (rfl) (Sub.cons (rfl) (Sub.nil)))) ?_
        have hsb := hCb.size
        have hr2F1 : ¬ F1 r2 := fun hF => by
          rcases hF1' _ hF with h | h
          · exact hr2F h
          · omega
        have hg3F1 : ¬ F1 g3 := fun hF => by
          rcases hF1' _ hF with h | h
          · exact hg3F h
          · have := hB31.lt; omega
        have hB3b2 := hB39.chg hCb (by rintro (h | h); exact hg3F h; exact hr2g3 h)
        have hnames : ∀ e ∈ es2, ∃ name, e.key = keyV name := fun e he => by obtain ⟨name, _, h, _⟩ := h3.sound e he; exact ⟨name, h⟩
        refine C.seq ?_
        by_cases hdone2 : AllSeen seen2 E
        · refine C.region ?_
          refine W.nextM rfl hIb hLb.mp rfl (fun _ => ?_) (fun j e w' hj hs _ _ => absurd (hdone2 e (List.mem_of_getElem? hj)) (by rw [hs]; decide))
          refine W.extract rfl rfl rfl ?_
          refine W.nil ?_
          refine At.thenCode ?_
          refine C.seq ?_
          refine C.condF rfl ?_
          refine C.exit ?_
          refine At.thenExit ?_
          refine At.thenExit ?_
          refine At.blockSelf ?_
          refine At.end0 Try.results35 ?_
          have hgs : goneS s r = ⟨goneL s.l r, r⟩ := by unfold goneS; rw [if_neg (by omega)]
          have hfin : LM wb F1 (Zof g mg lg) X1 lg (heldL (goneL s.l r)) E c2 := hLb.congr fun name hn => by
            rw [heldL_gone]
            show partF es2 seen2 r (heldL s.l) name = keepR r (heldL s.l name)
            by_cases hex : ∃ e ∈ E, e.key = keyV name
            · obtain ⟨e, he, hk⟩ := hex
              obtain ⟨en, hen, hen1, hen2⟩ := stamps_mem hEs he
              have hd : doneB es2 seen2 name = true := List.any_eq_true.2 ⟨en, hen, by rw [hen1, hk, nameK_key, hen2, hdone2 e he]; simp⟩
              unfold partF
              rw [if_pos hd]
            · have hnil : partF es2 seen2 r (heldL s.l) name = [] := by
                rcases Classical.em (partF es2 seen2 r (heldL s.l) name = []) with h | h
                · exact h
                · exact absurd (hLb.whole name hn h) hex
              rw [hnil]
              unfold partF at hnil
              split at hnil
              · exact hnil.symm
              · rw [hnil]; rfl
          rw [hgs]
          refine ⟨F1, ⟨⟨mg, lg, X1, _, _, E, c2, hgb, hAb, hfin, hStb, h5⟩, hF1 _ hgF, hStb.lt, ⟨fun x hx => hS.ok.1 x (List.mem_filter.1 hx).1, hr, hS.ok.2.2⟩⟩, hF1, fun k hk => (hF1' k hk).imp id fun h => by have := hC4w.size; omega, ?_⟩
          have q1 : Chg F w w5 := hC4w.ext hX5
          have q2 : Chg F w w1 := q1.news hC1 fun k hk => by
            rcases hk with rfl | rfl
            · exact .inl hmF
            · exact .inr (by have := hC4w.size; omega)
          exact (q2.ext hX9).news hCb fun k hk => by
            rcases hk with hk | rfl
            · exact .inl hk
            · exact .inr (by have := q2.size; omega)
        · refine C.region ?_
          refine W.nextM rfl hIb hLb.mp rfl (fun hall => absurd hall hdone2) ?_
          intro j e w10 hj hse hC10 hI10
          have hem := List.mem_of_getElem? hj
          obtain ⟨k, hkl, hkey, _⟩ := hLb.sound e hem
          have hs10 := hC10.size
          have hlr2 : lg ≠ r2 := fun e => hr2F1 (by rw [← e]; exact hF1 _ hlF)
          have hL10 := hLb.keep hStb hC10 (fun k hk => .inr (by subst hk; exact hr2F1)) hlr2
          have hSt10 := hStb.mono hs10
          have hg10 := hgb.chg hC10 (fun e => hr2F1 (by rw [← e]; exact hF1 _ hgF))
          have hA10 := hAb.chg hC10 (fun e => hr2F1 (by rw [← e]; exact hF1 _ hmF))
          have hB310 := hB3b2.chg hC10 hr2g3
          refine W.extract rfl rfl rfl ?_
          refine W.nil ?_
          refine At.thenCode ?_
          refine C.seq ?_
          refine C.condT rfl ?_
          refine C.skip ?_
          refine At.thenCode ?_
          refine C.block ?_
          refine C.seq ?_
          refine C.region ?_
          refine W.entryM rfl hI10 hL10.mp hj rfl ?_
          rw [hkey]
          refine W.extract rfl rfl rfl ?_
          refine W.extract rfl rfl rfl ?_
          refine W.alloc (z := .agg (List.replicate 32 (byteV 0)).toArray) (List.replicate 32 (byteV 0)) (by kernel_rfl) rfl rfl ?_
          intro g5 w11 hg5 hX11 hB11
          refine W.storeA (k.map byteV) rfl rfl hB11 (by rw [List.length_map, hkl]; rfl) (by rw [List.length_map, hkl]; kernel_rfl) (bytes_oneCell _) ?_
          intro w12 hC12 hB12
          have hX12 : Ext w10 w12 := hX11.news hC12 fun k hk => Or.inr (by omega)
          have hs12 := hX12.size
          have hL12 := hL10.keep hSt10 hX12 (fun _ c => c.elim) (fun c => c)
          have hSt12 := hSt10.mono hs12
          have hg12 := hg10.ext hX12
          have hg12' : Bk w12 g [.pointer (some ⟨dg, 0, none⟩), .map (some mg), .map (some lg), .int .i64 (r : Int), .int .i64 (owedI o)] := hg12
          have hA12 := hA10.chg hX12 (fun c => c)
          have hB312 := hB310.ext hX12
          have hI12 := hI10.chg hX12 (fun c => c)
          have hF1lt := hSt12.lt
          have hg5F1 : ¬ F1 g5 := fun hF => by have := hSt10.lt _ hF; omega
          obtain ⟨lk, hlk⟩ := keyK hkl
          have hp : Pre E c2 (keyV k) (.slice none 0 0) E c2 j e := ⟨hkey, hj, .inr ⟨rfl, rfl⟩⟩
          obtain ⟨hrow, hrown⟩ := LM.at hL12 hkl hp
          obtain ⟨en, hen, hen1, hen2⟩ := stamps_mem hEs hem
          obtain ⟨hdp, hdn⟩ := doneB_push (seen := seen2) h3.mp hen (hen1.trans hkey) hnames
          have hnd : doneB es2 seen2 k = false := hdn (by rw [hen2]; exact hse)
          have hpk : partF es2 seen2 r (heldL s.l) k = heldL s.l k := by unfold partF; rw [if_neg (by rw [hnd]; decide)]
          rw [hpk] at hrow
          have hpn : ∀ name, partF es2 (seen2.push e.born) r (heldL s.l) name = if name = k then keepR r (heldL s.l k) else partF es2 seen2 r (heldL s.l) name := fun name => by
            unfold partF
            rw [← hen2, hdp]
            by_cases hnk : name = k
            · subst hnk
              rw [if_pos rfl, if_pos (by simp)]
            · rw [if_neg hnk]
              simp [hnk]
          refine W.assign rfl rfl ?_
          refine W.nil ?_
          refine At.thenCode ?_
          refine C.regionAnyB (fun q b => q = 7 ∧ e.val.ownBlock = some b) 8 ((fun v w => v = .pointer (some ⟨g, 0, none⟩)) :: (fun v w => v = .pointer (some ⟨g, 0, none⟩)) :: (fun v w => v = .pointer (some ⟨g, 2, none⟩)) :: (fun v w => v = .map (some lg)) :: (fun v w => v = keyV k) :: (fun v w => v = e.val) :: (fun v w => v = expFn g3) :: (fun v w => OwE (fun q => X1 q ∧ q < w12.heap.size) w 0 87 2 RHeld v (keepR r (heldL s.l k)) ∧ v.ownBlock = e.val.ownBlock) :: []) [(0, .pointer (some ⟨g, 0, none⟩)), (3, .pointer (some ⟨g3, 0, none⟩)), (5, .pointer (some ⟨g5, 0, none⟩)), (6, e.val), (39, .pointer (some ⟨r2, 0, none⟩))] [] (Sub.cons (rfl) (Sub.cons (rfl) (Sub.cons (rfl) (Sub.cons (rfl) (Sub.cons (rfl) (Sub.nil)))))) (Sub.nil) (Sub.cons (rfl) (Sub.cons (rfl) (Sub.cons (rfl) (Sub.cons (rfl) (Sub.cons (rfl) (Sub.nil)))))) (by kernel_rfl) rfl rfl rfl (And.intro (fun _ _ _ h _ => h) (And.intro (fun _ _ _ h _ => h) (And.intro (fun _ _ _ h _ => h) (And.intro (fun _ _ _ h _ => h) (And.intro (fun _ _ _ h _ => h) (And.intro (fun _ _ _ h _ => h) (And.intro (fun _ _ _ h _ => h) (And.intro (fun _ _ _ h g => ⟨OwE.ext rHeld h.1 (FamPost.ext g (by rintro q b q1 q2 ⟨rfl, _⟩; exact q1 rfl)), h.2⟩) (trivial))))))))) ?_ ?_
          · refine And.intro ?_ ?_
            · intro L_ wr hX_ hs_ hf_ hd_
              refine W.step [(0, _)] (Sub.cons (hs_ _ _ rfl) (Sub.refl _)) ?_
              refine W.move rfl rfl ?_
              refine W.nil ?_
              exact At.stepF (Fam.ofExt (Ext.refl _)) rfl
            refine And.intro ?_ ?_
            · intro L_ wr hX_ hs_ hf_ hd_
              obtain ⟨v0, e0, r0⟩ := hd_ 0 rfl
              obtain rfl : (.pointer (some ⟨g, 0, none⟩) : Value) = v0 := Eq.symm r0
              refine W.step [(45, _)] (Sub.cons (e0 _ rfl) (Sub.refl _)) ?_
              refine W.nilCheck rfl rfl ?_
              refine W.nil ?_
              exact At.stepF (Fam.ofExt (Ext.refl _)) rfl
            refine And.intro ?_ ?_
            · intro L_ wr hX_ hs_ hf_ hd_
              obtain ⟨v1, e1, r1⟩ := hd_ 1 rfl
              obtain rfl : (.pointer (some ⟨g, 0, none⟩) : Value) = v1 := Eq.symm r1
              refine W.step [(46, _)] (Sub.cons (e1 _ rfl) (Sub.refl _)) ?_
              refine W.fieldB (off := 2) (size := 1) (t := 69) (Fld.of (by kernel_rfl)) rfl rfl rfl ?_
              refine W.nil ?_
              exact At.stepF (Fam.ofExt (Ext.refl _)) rfl
            refine And.intro ?_ ?_
            · intro L_ wr hX_ hs_ hf_ hd_
              obtain ⟨v2, e2, r2⟩ := hd_ 2 rfl
              obtain rfl : (.pointer (some ⟨g, 2, none⟩) : Value) = v2 := Eq.symm r2
              refine W.step [(47, _)] (Sub.cons (e2 _ rfl) (Sub.refl _)) ?_
              refine W.loadB (v := .map (some lg)) rfl Try.underlying69 rfl (hg12'.chg hX_ (by rintro ⟨_, _, _, _, q⟩; exact (hrown _ q).2.2 hZg)) rfl rfl ?_
              refine W.nil ?_
              exact At.stepF (Fam.ofExt (Ext.refl _)) rfl
            refine And.intro ?_ ?_
            · intro L_ wr hX_ hs_ hf_ hd_
              refine W.step [(5, _)] (Sub.cons (hs_ _ _ rfl) (Sub.refl _)) ?_
              refine W.loadA rfl ((hB12.chg hX_ (by rintro ⟨_, _, _, _, q⟩; exact hg5F1 (hrown _ q).1)).cells (o := 0)) Try.underlying50 rfl (by rw [List.drop_zero, List.length_map, hkl]; kernel_rfl) rfl ?_
              rw [List.drop_zero]
              refine W.nil ?_
              exact At.stepF (Fam.ofExt (Ext.refl _)) rfl
            refine And.intro ?_ ?_
            · intro L_ wr hX_ hs_ hf_ hd_
              refine W.step [(6, _)] (Sub.cons (hs_ _ _ rfl) (Sub.refl _)) ?_
              refine W.move rfl rfl ?_
              refine W.nil ?_
              exact At.stepF (Fam.ofExt (Ext.refl _)) rfl
            refine And.intro ?_ ?_
            · intro L_ wr hX_ hs_ hf_ hd_
              refine W.step [(3, _)] (Sub.cons (hs_ _ _ rfl) (Sub.refl _)) ?_
              refine W.makeFunc (caps := [.pointer (some ⟨g3, 0, none⟩)]) rfl rfl ?_
              refine W.nil ?_
              exact At.stepF (Fam.ofExt (Ext.refl _)) rfl
            refine And.intro ?_ ?_
            · intro L_ wr hX_ hs_ hf_ hd_
              obtain ⟨v5, e5, r5⟩ := hd_ 5 rfl
              obtain rfl : (e.val : Value) = v5 := Eq.symm r5
              obtain ⟨v6, e6, r6⟩ := hd_ 6 rfl
              obtain rfl : (expFn g3 : Value) = v6 := Eq.symm r6
              refine W.step [(50, _), (51, _)] (Sub.cons (e5 _ rfl) (Sub.cons (e6 _ rfl) (Sub.refl _))) ?_
              have hXr : Ext w12 wr := FamPre.ext hX_ (by rintro q b q1 q2 ⟨rfl, _⟩; exact q1 rfl)
              have hro : OwE (fun q => X1 q ∧ q < w12.heap.size) wr 0 87 2 RHeld e.val (heldL s.l k) := OwE.new rHeld (OwE.ext rHeld hrow hXr) fun q hq _ => .inl hq.1
              refine W.call Try.call59 rfl (Mbx.DeleteFunc_ok _ e.val (heldL s.l k) g3 r _ hro (hB312.ext hXr) (fun hq => hg3F1 (hrown _ hq).1) (by have := hold k; omega)) rfl ?_
              rintro v52 w52 ⟨ho52, hv52, hC52⟩
              refine W.nil ?_
              exact At.stepF (Fam.of 7 (hC52.mono fun b hb => ⟨rfl, hb⟩)) ⟨ho52, hv52⟩
            exact trivial
          · intro L_ wr hX11 hs_ hv_
            obtain ⟨v3, e3, r3⟩ := hv_ 3 (by decide)
            obtain rfl : (.map (some lg) : Value) = v3 := Eq.symm r3
            obtain ⟨v4, e4, r4⟩ := hv_ 4 (by decide)
            obtain rfl : (keyV k : Value) = v4 := Eq.symm r4
            obtain ⟨v7, e7, r7⟩ := hv_ 7 (by decide)
            refine W.weaken (l' := [(48, _), (49, _), (52, _), (0, _), (3, _), (5, _), (6, _), (39, _)]) (Sub.cons (e3 _ rfl) (Sub.cons (e4 _ rfl) (Sub.cons (e7 _ rfl) (Sub.cons (hs_ _ _ rfl) (Sub.cons (hs_ _ _ rfl) (Sub.cons (hs_ _ _ rfl) (Sub.cons (hs_ _ _ rfl) (Sub.cons (hs_ _ _ rfl) (Sub.nil))))))))) ?_
            have hC11 : Chg (fun b => e.val.ownBlock = some b) w12 wr := Chg.mono hX11 (by rintro b ⟨q, _, q1⟩; exact q1)
            have hM11 : Mp Try.prog 50 wr lg E c2 := hL12.mp.chg hC11 (fun hq => (hrown _ hq).2.2 hZl)
            refine W.updateM lawK Try.underlying69 rfl rfl rfl hM11 hlk ?_
            intro E' c' wz hCz hMz hdz
            obtain ⟨rfl, hcc⟩ : E' = E.set j ⟨keyV k, v7, e.born⟩ ∧ c' = c2 := by
              rcases hdz with ⟨hno, _⟩ | ⟨j', e', hj', hk', h6, h7⟩
              · exact absurd hkey (hno e hem)
              · have := hM11.uniq hj' hj (hk'.trans hkey.symm)
                subst this
                have := Option.some.inj (hj'.symm.trans hj)
                subst this
                exact ⟨h6, h7⟩
            rw [hcc] at hMz
            obtain ⟨ho7, hv7⟩ := r7
            have hCall : Chg (fun q => q = lg ∨ e.val.ownBlock = some q) w12 wz := (hC11.mono fun b hb => .inr hb).trans (hCz.mono fun b hb => .inl hb)
            have hoz : OwE (fun q => X1 q ∧ q < w12.heap.size) wz 0 87 2 RHeld v7 (partF es2 (seen2.push e.born) r (heldL s.l) k) := by
              rw [hpn, if_pos rfl]
              exact OwE.chgS rHeld ho7 hCz (fun q hq => by subst hq; exact ⟨hSt12.zx _ hZl, hF1lt _ (hF1 _ hlF)⟩) (fun q hq hql => by subst hql; rw [hv7] at hq; exact (hrown _ hq).2.2 hZl)
            obtain ⟨X', hLz, hSz⟩ := LM.put (f' := partF es2 (seen2.push e.born) r (heldL s.l)) hL12 hSt12 hZl hkl hp hMz hCall hoz (.inl hv7) (fun name hne => by rw [hpn, if_neg hne])
            have hgz : Bk wz g (stC dg mg lg r o) := hg12.chg hCall (by
              rintro (h | h)
              · exact h5.2.1 h
              · exact (hrown _ h).2.2 hZg)
            have hAz := hA12.chg hCall (by
              rintro (h | h)
              · exact h5.2.2 h
              · exact (hrown _ h).2.2 hZm)
            have hIz := hI12.chg hCall (by
              rintro (h | h)
              · exact hlr2 h.symm
              · exact hr2F1 (hrown _ h).1)
            refine W.nil ?_
            refine At.blockNormal ?_
            refine At.thenRound (seen2.push e.born, c2) (Sub.cons (rfl) (Sub.cons (rfl) (Sub.cons (rfl) (Sub.nil)))) (show ∃ (F1 X1 : Nat → Prop) (E : List MapEntry), (∀ k, F k → F1 k) ∧ (∀ k, F1 k → F k ∨ w9.heap.size ≤ k) ∧ Chg (fun k => F k ∨ k = r2) w9 _ ∧ Bk _ g (stC dg mg lg r o) ∧ AM _ mg (goneL s.l r) (es1.filter (stayE r)) c1 ∧ LM _ F1 (Zof g mg lg) X1 lg (partF es2 (seen2.push e.born) r (heldL s.l)) E c2 ∧ Sets _ F1 (Zof g mg lg) X1 ∧ It _ r2 lg c2 (seen2.push e.born) (c2) ∧ stamps E = stamps es2 from ?_) (show (leftE (seen2.push e.born) es2).length < (leftE seen2 es2).length from ?_)
            · refine ⟨Grown F1 w12 wz, X', _, fun k hk => .inl (hF1 k hk), fun k hk => ?_, ?_, hgz, hAz, hLz, hSz, hIz, ?_⟩
              · rcases hk with hk | hk
                · exact hF1' k hk
                · exact .inr (by omega)
              · refine hCb.news ((hC10.mono fun k hk => .inr (.inl hk)).trans ((hX12.mono fun _ c => c.elim).trans (hCall.mono fun k hk => (?_ : (F k ∨ w9.heap.size ≤ k) ∨ k = r2 ∨ False)))) fun k hk => ?_
                · rcases hk with rfl | hk
                  · exact .inl (.inl hlF)
                  · exact .inl (hF1' _ (hrown _ hk).1)
                · rcases hk with (hk | hk) | hk | hk
                  · exact .inl (.inl hk)
                  · exact .inr hk
                  · exact .inl (.inr hk)
                  · exact hk.elim
              · have := stamps_set hj v7
                rw [hkey] at this
                rw [this]; exact hEs
            · exact filter_lt (fun x _ hx => by rw [has_push] at hx; revert hx; cases seen2.contains x.born <;> simp) hen (by rw [hen2, hse]; rfl) (by rw [hen2, has_push]; simp)
      · refine C.region ?_
        refine W.nextM rfl hI1 hM1 rfl (fun hall => absurd hall hdone) ?_
        intro j e w2 hj hse hC2 hI2
        have hem := List.mem_of_getElem? hj
        have hem1 : e ∈ es1 := (List.mem_filter.1 hem).1
        obtain ⟨hev, xb, hxb, hkey⟩ := hA4.mem hem1
        have hxok := (hS.ok.1 xb hxb).1
        obtain ⟨lk, hlk⟩ := keyP (show InI xb.round from hxok.1) (show InI xb.chain from hxok.2.1)
        have hM2 := hM1.chg hC2 (fun e => hr1F (by rw [← e]; exact hmF))
        have hs2 := hC2.size
        have hB32 := hB31.chg hC2 (fun e => hr1g3 e.symm)
        have hg2 := hg1.chg hC2 (fun e => hr1F (by rw [← e]; exact hgF))
        have hrk : roundK e.key = xb.round := by rw [hkey]; rfl
        refine W.extract rfl rfl rfl ?_
        refine W.nil ?_
        refine At.thenCode ?_
        refine C.seq ?_
        refine C.condT rfl ?_
        refine C.skip ?_
        refine At.thenCode ?_
        refine C.block ?_
        refine C.seq ?_
        refine C.region ?_
        refine W.entryM rfl hI2 hM2 hj rfl ?_
        rw [hkey]
        refine W.extract rfl rfl rfl ?_
        refine W.alloc (z := .agg #[.int .i64 0, .int .i64 0]) [.int .i64 0, .int .i64 0] (by kernel_rfl) rfl rfl ?_
        intro g4 w6 hg4 hX6 hB6
        refine W.storeA [.int .i64 xb.round, .int .i64 xb.chain] rfl rfl hB6 rfl (by kernel_rfl) (by
          intro u hu
          simp only [List.mem_cons, List.not_mem_nil, or_false] at hu
          rcases hu with rfl | rfl <;> rfl) ?_
        intro w7 hC7 hB7
        have hX7 : Ext w2 w7 := hX6.news hC7 fun k hk => Or.inr (by omega)
        have hM7 := hM2.ext hX7
        have hI7 := hI2.chg hX7 (fun c => c)
        have hB37 := hB32.ext hX7
        have hg7 := hg2.ext hX7
        have hs7 := hX7.size
        have hC7w : Chg (fun k => k = mg ∨ k = r1) w5 w7 := (hC1.trans (hC2.mono fun k hk => .inr hk)).ext hX7
        refine W.nil ?_
        refine At.thenCode ?_
        refine C.seq ?_
        refine C.region ?_
        refine W.fieldB (off := 0) (size := 1) (t := 3) (Fld.of (by kernel_rfl)) rfl rfl rfl ?_
        refine W.loadB (v := .int .i64 xb.round) rfl Try.underlying3 rfl hB7 rfl rfl ?_
        refine W.loadB (v := .int .i64 (r : Int)) rfl Try.underlying3 rfl hB37 rfl rfl ?_
        refine W.lssI rfl rfl rfl ?_
        refine W.nil ?_
        refine At.thenCode ?_
        first | refine C.condD rfl (fun c29 => ?_) (fun c29 => ?_) | refine C.cond rfl (fun c29 => ?_) (fun c29 => ?_)
        · refine C.regionAny 5 ((fun v w => v = .pointer (some ⟨g, 0, none⟩)) :: (fun v w => v = .pointer (some ⟨g, 0, none⟩)) :: (fun v w => v = .pointer (some ⟨g, 1, none⟩)) :: (fun v w => v = .map (some mg)) :: (fun v w => v = placeV xb.round xb.chain) :: []) [(0, .pointer (some ⟨g, 0, none⟩)), (3, .pointer (some ⟨g3, 0, none⟩)), (4, .pointer (some ⟨g4, 0, none⟩)), (21, .pointer (some ⟨r1, 0, none⟩))] [] (Sub.cons (rfl) (Sub.cons (rfl) (Sub.cons (rfl) (Sub.cons (rfl) (Sub.nil))))) (Sub.nil) (Sub.cons (rfl) (Sub.cons (rfl) (Sub.cons (rfl) (Sub.cons (rfl) (Sub.nil))))) (by kernel_rfl) rfl rfl rfl (And.intro (fun _ _ _ h _ => h) (And.intro (fun _ _ _ h _ => h) (And.intro (fun _ _ _ h _ => h) (And.intro (fun _ _ _ h _ => h) (And.intro (fun _ _ _ h _ => h) (trivial)))))) ?_ ?_
          · refine And.intro ?_ ?_
            · intro L_ wq hX_ hs_ hf_ hd_
              refine W.step [(0, _)] (Sub.cons (hs_ _ _ rfl) (Sub.refl _)) ?_
              refine W.move rfl rfl ?_
              refine W.nil ?_
              exact At.step (Ext.refl _) rfl
            refine And.intro ?_ ?_
            · intro L_ wq hX_ hs_ hf_ hd_
              obtain ⟨v0, e0, r0⟩ := hd_ 0 rfl
              obtain rfl : (.pointer (some ⟨g, 0, none⟩) : Value) = v0 := Eq.symm r0
              refine W.step [(30, _)] (Sub.cons (e0 _ rfl) (Sub.refl _)) ?_
              refine W.nilCheck rfl rfl ?_
              refine W.nil ?_
              exact At.step (Ext.refl _) rfl
            refine And.intro ?_ ?_
            · intro L_ wq hX_ hs_ hf_ hd_
              obtain ⟨v1, e1, r1⟩ := hd_ 1 rfl
              obtain rfl : (.pointer (some ⟨g, 0, none⟩) : Value) = v1 := Eq.symm r1
              refine W.step [(31, _)] (Sub.cons (e1 _ rfl) (Sub.refl _)) ?_
              refine W.fieldB (off := 1) (size := 1) (t := 68) (Fld.of (by kernel_rfl)) rfl rfl rfl ?_
              refine W.nil ?_
              exact At.step (Ext.refl _) rfl
            refine And.intro ?_ ?_
            · intro L_ wq hX_ hs_ hf_ hd_
              obtain ⟨v2, e2, r2⟩ := hd_ 2 rfl
              obtain rfl : (.pointer (some ⟨g, 1, none⟩) : Value) = v2 := Eq.symm r2
              refine W.step [(32, _)] (Sub.cons (e2 _ rfl) (Sub.refl _)) ?_
              refine W.loadB (v := .map (some mg)) rfl Try.underlying68 rfl (hg7.ext hX_) rfl rfl ?_
              refine W.nil ?_
              exact At.step (Ext.refl _) rfl
            refine And.intro ?_ ?_
            · intro L_ wq hX_ hs_ hf_ hd_
              refine W.step [(4, _)] (Sub.cons (hs_ _ _ rfl) (Sub.refl _)) ?_
              refine W.loadA (cs := [.int .i64 xb.round, .int .i64 xb.chain]) rfl ((hB7.ext hX_).cells (o := 0)) Try.underlying83 rfl (by kernel_rfl) rfl ?_
              refine W.nil ?_
              exact At.step (Ext.refl _) rfl
            exact trivial
          · intro L_ wq hX7 hs_ hv_
            obtain ⟨v3, e3, r3⟩ := hv_ 3 (by decide)
            obtain rfl : (.map (some mg) : Value) = v3 := Eq.symm r3
            obtain ⟨v4, e4, r4⟩ := hv_ 4 (by decide)
            obtain rfl : (placeV xb.round xb.chain : Value) = v4 := Eq.symm r4
            refine W.weaken (l' := [(33, _), (34, _), (0, _), (3, _), (4, _), (21, _)]) (Sub.cons (e3 _ rfl) (Sub.cons (e4 _ rfl) (Sub.cons (hs_ _ _ rfl) (Sub.cons (hs_ _ _ rfl) (Sub.cons (hs_ _ _ rfl) (Sub.cons (hs_ _ _ rfl) (Sub.nil))))))) ?_
            have hXq := hX7
            refine W.deleteM lawP Try.underlying68 rfl rfl (hM7.ext hXq) hlk ?_
            intro es' w8 hC8 hM8 hd8
            have hes' : es' = restE (seen.push e.born) r es1 := by
              rcases hd8 with ⟨hno, _⟩ | ⟨j', e', hj', hk', rfl⟩
              · exact absurd hkey (hno e hem)
              · have hjj := hM7.uniq hj' hj (hk'.trans hkey.symm)
                subst hjj
                have he := Option.some.inj (hj'.symm.trans hj)
                subst he
                have hke : stayE r e' = false := by unfold stayE; rw [hrk]; exact decide_eq_false (by omega)
                have hfe : (restE seen r es1).eraseIdx j' = (restE seen r es1).filter fun x => !decide (x.born = e'.born) := by
                  refine (ChangeMaps.filter_eq_eraseIdx (fun x : MapEntry => decide (x.born = e'.born)) _ j' e' hj (by simp) ?_).symm
                  refine List.pairwise_iff_getElem.2 fun a b ha hb hab ⟨h1, h2⟩ => ?_
                  simp only [decide_eq_true_eq] at h1 h2
                  have := hM7.uniqB (List.getElem?_eq_getElem ha) (List.getElem?_eq_getElem hb) (h1.trans h2.symm)
                  omega
                rw [hfe]
                unfold restE
                rw [List.filter_filter]
                apply List.filter_congr
                intro x hx
                rw [has_push]
                by_cases hb : x.born = e'.born
                · have hxe : x = e' := by
                    obtain ⟨i1, hi1⟩ := List.mem_iff_getElem?.1 hx
                    obtain ⟨i2, hi2⟩ := List.mem_iff_getElem?.1 hem1
                    have := hA4.mp.uniqB hi1 hi2 hb
                    subst this
                    exact Option.some.inj (hi1.symm.trans hi2)
                  subst hxe
                  simp [hke]
                · simp [hb]
            rw [hes'] at hM8
            have hs8 := hC8.size
            have hC8w : Chg (fun k => k = mg ∨ k = r1) w5 w8 := (hC7w.ext hXq).trans (hC8.mono fun k hk => .inl hk)
            have hI8 : It w8 r1 mg c1 (seen.push e.born) c1 := (hI7.chg hXq (fun c => c)).chg hC8 (fun e => hr1F (by rw [e]; exact hmF))
            refine W.nil ?_
            refine At.blockNormal ?_
            refine At.thenRound (seen.push e.born, c1) (Sub.cons (rfl) (Sub.cons (rfl) (Sub.cons (rfl) (Sub.nil)))) (show Chg (fun k => k = mg ∨ k = r1) w5 _ ∧ Mp Try.prog 83 _ mg (restE (seen.push e.born) r es1) c1 ∧ It _ r1 mg c1 (seen.push e.born) (c1) from ?_) (show (leftE (seen.push e.born) es1).length < (leftE seen es1).length from ?_)
            · exact ⟨hC8w, hM8, hI8⟩
            · exact filter_lt (fun x _ hx => by rw [has_push] at hx; revert hx; cases seen.contains x.born <;> simp) hem1 (by rw [hse]; rfl) (by rw [has_push]; simp)
        · refine C.skip ?_
          refine At.blockNormal ?_
          have hke : stayE r e = true := by unfold stayE; rw [hrk]; exact decide_eq_true (by omega)
          have hsame : restE (seen.push e.born) r es1 = restE seen r es1 := by
            unfold restE
            apply List.filter_congr
            intro x hx
            rw [has_push]
            by_cases hb : x.born = e.born
            · have hxe : x = e := by
                obtain ⟨i1, hi1⟩ := List.mem_iff_getElem?.1 hx
                obtain ⟨i2, hi2⟩ := List.mem_iff_getElem?.1 hem1
                have := hA4.mp.uniqB hi1 hi2 hb
                subst this
                exact Option.some.inj (hi1.symm.trans hi2)
              subst hxe
              simp [hke]
            · simp [hb]
          refine At.thenRound (seen.push e.born, c1) (Sub.cons (rfl) (Sub.cons (rfl) (Sub.cons (rfl) (Sub.nil)))) (show Chg (fun k => k = mg ∨ k = r1) w5 _ ∧ Mp Try.prog 83 _ mg (restE (seen.push e.born) r es1) c1 ∧ It _ r1 mg c1 (seen.push e.born) (c1) from ?_) (show (leftE (seen.push e.born) es1).length < (leftE seen es1).length from ?_)
          · exact ⟨hC7w, by rw [hsame]; exact hM7, hI7⟩
          · exact filter_lt (fun x _ hx => by rw [has_push] at hx; revert hx; cases seen.contains x.born <;> simp) hem1 (by rw [hse]; rfl) (by rw [has_push]; simp)
end Go.Proofs.Ythiijdbiikljpaa.Mbx
