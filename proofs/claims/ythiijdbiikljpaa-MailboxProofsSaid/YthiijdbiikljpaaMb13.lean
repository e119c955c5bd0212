/- Package mailbox: fetching. -/
import Derived.Test.YthiijdbiikljpaaMb12
namespace Go.Proofs.Ythiijdbiikljpaa.Mbx
open Go Go.RowKit Go.Proofs.Ythiijdbiikljpaa.KW Go.Proofs.Ythiijdbiikljpaa.Words Go.Proofs.Ythiijdbiikljpaa.Sha Go.Proofs.Ythiijdbiikljpaa.RSha Go.Proofs.Ythiijdbiikljpaa.Grp Go.Proofs.Ythiijdbiikljpaa.Cod Go.Proofs.Ythiijdbiikljpaa.Disk
set_option linter.unusedVariables false
set_option linter.unusedSimpArgs false
set_option maxRecDepth 100000
def fetchH (hs : List Hd) (name : List UInt8) (a c : Int) : List Let := (hs.filter fun h => decide (a ≤ h.1) && decide (h.1 ≤ c)).map fun h => (name, h.2)
theorem fetchH_step {hs : List Hd} {i : Nat} (hi : i < hs.length) (name : List UInt8) (a c : Int) : fetchH (hs.take (i + 1)) name a c = fetchH (hs.take i) name a c ++ if a ≤ (hs[i]'hi).1 ∧ (hs[i]'hi).1 ≤ c then [(name, (hs[i]'hi).2)] else [] := by
  unfold fetchH
  rw [List.take_succ_eq_append_getElem hi, List.filter_append, List.map_append]
  congr 1
  by_cases h : a ≤ (hs[i]'hi).1 ∧ (hs[i]'hi).1 ≤ c
  · rw [if_pos h]; simp [h.1, h.2]
  · rw [if_neg h]
    rcases Classical.em (a ≤ (hs[i]'hi).1) with h1 | h1
    · have h2 : ¬ (hs[i]'hi).1 ≤ c := fun h2 => h ⟨h1, h2⟩
      simp [h1, h2]
    · simp [h1]
theorem fetchH_len (hs : List Hd) (name : List UInt8) (a c : Int) : (fetchH hs name a c).length ≤ hs.length := by
  unfold fetchH
  rw [List.length_map]
  exact List.length_filter_le _ _
theorem held_body {l : List BatD} {m : Nat} (h : ∀ x ∈ l, ∀ p ∈ x.lets, p.2.length ≤ m) (name : List UInt8) : ∀ y ∈ heldL l name, y.2.length ≤ m := by
  intro y hy
  obtain ⟨x, hx, hy⟩ := List.mem_flatMap.1 hy
  unfold heldX at hy
  obtain ⟨p, hp, rfl⟩ := List.mem_map.1 hy
  have hp := (List.mem_filter.1 hp).1
  exact h x hx p (List.mem_of_mem_take hp)
def LZ : List Value := Z32 ++ [Value.slice none 0 0]
theorem LZ_key {k : List UInt8} (h : k.length = 32) : KW.splice LZ 0 (k.map byteV) = k.map byteV ++ [Value.slice none 0 0] := by
  have := splice_mid (pre := []) (mid := Z32) (post := [Value.slice none 0 0]) (xs := k.map byteV) (by rw [List.length_map, h]; rfl)
  simpa [LZ] using this
theorem LZ_box {k : List UInt8} (h : k.length = 32) (u v : Value) : KW.splice (k.map byteV ++ [u]) 32 [v] = k.map byteV ++ [v] := by
  have := splice_mid (pre := k.map byteV) (mid := [u]) (post := []) (xs := [v]) rfl
  simpa [h] using this
theorem Fetch_ok (F : Nat → Prop) (g dg : Nat) (s : Bag) (o : Option Nat) (name : List UInt8) (a c : Int) (w : World) (hS : St w F g dg s o) (hnl : name.length = 32) (ha : InI a) (hc : InI c) (hsl : s.l.length ≤ 1000000000) :
    Ct Try.prog 20 #[.pointer (some ⟨g, 0, none⟩), keyV name, .int .i64 a, .int .i64 c] w (fun v w' => ∃ ao co, v = .slice ao (fetchL s.l name a c).length co ∧ Els (fun k => k < w.heap.size) w' 33 RLet ao co (fetchL s.l name a c) ∧ Ext w w') := by
  obtain ⟨mg, lg, X, es1, c1, es2, c2, h1, h2, h3, h4, h5⟩ := hS.out
  have hlt := hS.lt
  have hold : (heldL s.l name).length ≤ 1000000000000 := by
    have := heldL_len (l := s.l) (m := 1000) (fun y hy => (batE_small (hS.ok.1 y hy).2).2.1) name
    omega
  obtain ⟨lk, hlk⟩ := keyK hnl
  refine Ct.enter [(0, .pointer (some ⟨g, 0, none⟩)), (1, keyV name), (2, .int .i64 a), (3, .int .i64 c)] Try.func20 rfl rfl rfl rfl ?_
  refine C.seq ?_
  refine C.region ?_
  refine W.box (name.map byteV) rfl rfl rfl ?_
  intro g5 w5 hg5 hX5 hB5
  have h1b : Bk w5 g [.pointer (some ⟨dg, 0, none⟩), .map (some mg), .map (some lg), .int .i64 (s.past : Int), .int .i64 (owedI o)] := h1.ext hX5
  have hL5 := h3.keep h4 hX5 (fun _ c => c.elim) (fun c => c)
  have hs5 := hX5.size
  obtain ⟨En, Ck, J, en, hp⟩ := Pre.exist es2 c2 (keyV name) (.slice none 0 0)
  obtain ⟨hrow, hrown⟩ := LM.at hL5 hnl hp
  obtain ⟨ah, ch, hev, hEl, _⟩ := OwE.form rHeld (OwE.new rHeld hrow (B := fun _ => False) (fun _ h => h.elim)) (fun _ _ h => h)
  refine W.assign rfl rfl ?_
  refine W.nil ?_
  refine At.thenCode ?_
  refine C.seq ?_
  refine C.region ?_
  refine W.assign rfl rfl ?_
  refine W.nil ?_
  refine At.thenCode ?_
  refine C.seq ?_
  refine C.seq ?_
  refine C.regionAny 8 ((fun v w => v = .pointer (some ⟨g, 0, none⟩)) :: (fun v w => v = .pointer (some ⟨g, 0, none⟩)) :: (fun v w => v = .pointer (some ⟨g, 2, none⟩)) :: (fun v w => v = .map (some lg)) :: (fun v w => v = keyV name) :: (fun v w => v = .slice ah (heldL s.l name).length ch) :: (fun v w => v = .int .i64 ((heldL s.l name).length : Int)) :: (fun v w => v = .int .i64 0) :: []) [(0, .pointer (some ⟨g, 0, none⟩)), (2, .int .i64 a), (3, .int .i64 c), (5, .pointer (some ⟨g5, 0, none⟩)), (9, .slice none 0 0)] [] (Sub.cons (rfl) (Sub.cons (rfl) (Sub.cons (rfl) (Sub.cons (rfl) (Sub.cons (rfl) (Sub.nil)))))) (Sub.nil) (Sub.cons (rfl) (Sub.cons (rfl) (Sub.cons (rfl) (Sub.cons (rfl) (Sub.cons (rfl) (Sub.nil)))))) (by kernel_rfl) rfl rfl rfl (And.intro (fun _ _ _ h _ => h) (And.intro (fun _ _ _ h _ => h) (And.intro (fun _ _ _ h _ => h) (And.intro (fun _ _ _ h _ => h) (And.intro (fun _ _ _ h _ => h) (And.intro (fun _ _ _ h _ => h) (And.intro (fun _ _ _ h _ => h) (And.intro (fun _ _ _ h _ => h) (trivial))))))))) ?_ ?_
  · refine And.intro ?_ ?_
    · intro L_ wr hX_ hs_ hf_ hd_
      refine W.step [(0, _)] (Sub.cons (hs_ _ _ rfl) (Sub.refl _)) ?_
      refine W.move rfl rfl ?_
      refine W.nil ?_
      exact At.step (Ext.refl _) rfl
    refine And.intro ?_ ?_
    · intro L_ wr hX_ hs_ hf_ hd_
      obtain ⟨v0, e0, r0⟩ := hd_ 0 rfl
      obtain rfl : (.pointer (some ⟨g, 0, none⟩) : Value) = v0 := Eq.symm r0
      refine W.step [(12, _)] (Sub.cons (e0 _ rfl) (Sub.refl _)) ?_
      refine W.nilCheck rfl rfl ?_
      refine W.nil ?_
      exact At.step (Ext.refl _) rfl
    refine And.intro ?_ ?_
    · intro L_ wr hX_ hs_ hf_ hd_
      obtain ⟨v1, e1, r1⟩ := hd_ 1 rfl
      obtain rfl : (.pointer (some ⟨g, 0, none⟩) : Value) = v1 := Eq.symm r1
      refine W.step [(13, _)] (Sub.cons (e1 _ rfl) (Sub.refl _)) ?_
      refine W.fieldB (off := 2) (size := 1) (t := 69) (Fld.of (by kernel_rfl)) rfl rfl rfl ?_
      refine W.nil ?_
      exact At.step (Ext.refl _) rfl
    refine And.intro ?_ ?_
    · intro L_ wr hX_ hs_ hf_ hd_
      obtain ⟨v2, e2, r2⟩ := hd_ 2 rfl
      obtain rfl : (.pointer (some ⟨g, 2, none⟩) : Value) = v2 := Eq.symm r2
      refine W.step [(14, _)] (Sub.cons (e2 _ rfl) (Sub.refl _)) ?_
      refine W.loadB (v := .map (some lg)) rfl Try.underlying69 rfl (h1b.ext hX_) rfl rfl ?_
      refine W.nil ?_
      exact At.step (Ext.refl _) rfl
    refine And.intro ?_ ?_
    · intro L_ wr hX_ hs_ hf_ hd_
      refine W.step [(5, _)] (Sub.cons (hs_ _ _ rfl) (Sub.refl _)) ?_
      refine W.loadA rfl ((hB5.ext hX_).cells (o := 0)) Try.underlying50 rfl (by rw [List.drop_zero, List.length_map, hnl]; kernel_rfl) rfl ?_
      rw [List.drop_zero]
      refine W.nil ?_
      exact At.step (Ext.refl _) rfl
    refine And.intro ?_ ?_
    · intro L_ wr hX_ hs_ hf_ hd_
      obtain ⟨v3, e3, r3⟩ := hd_ 3 rfl
      obtain rfl : (.map (some lg) : Value) = v3 := Eq.symm r3
      obtain ⟨v4, e4, r4⟩ := hd_ 4 rfl
      obtain rfl : (keyV name : Value) = v4 := Eq.symm r4
      refine W.step [(15, _), (16, _)] (Sub.cons (e3 _ rfl) (Sub.cons (e4 _ rfl) (Sub.refl _))) ?_
      refine W.lookupM (z := .slice none 0 0) lawK Try.underlying69 (by kernel_rfl) rfl rfl (hL5.mp.ext hX_) hlk rfl ?_
      intro rv hrv
      obtain rfl : .slice ah (heldL s.l name).length ch = rv := by
        rw [← hev]
        rcases hrv with ⟨hn, rfl⟩ | ⟨e, he, hk, rfl⟩
        · rcases hp.is with ⟨_, rfl, _⟩ | ⟨rfl, _⟩
          · rfl
          · exact absurd hp.key (hn _ (List.mem_of_getElem? hp.get))
        · rcases hp.is with ⟨hn, _⟩ | ⟨rfl, _⟩
          · exact absurd hk (hn e he)
          · obtain ⟨j, hj⟩ := List.mem_iff_getElem?.1 he
            have := hL5.mp.uniq hj hp.get (hk.trans hp.key.symm)
            subst this
            rw [Option.some.inj (hj.symm.trans hp.get)]
      refine W.nil ?_
      exact At.step (Ext.refl _) rfl
    refine And.intro ?_ ?_
    · intro L_ wr hX_ hs_ hf_ hd_
      obtain ⟨v5, e5, r5⟩ := hd_ 5 rfl
      obtain rfl : (.slice ah (heldL s.l name).length ch : Value) = v5 := Eq.symm r5
      refine W.step [(17, _)] (Sub.cons (e5 _ rfl) (Sub.refl _)) ?_
      refine W.lenS rfl Try.underlying85 rfl ?_
      refine W.nil ?_
      exact At.step (Ext.refl _) rfl
    refine And.intro ?_ ?_
    · intro L_ wr hX_ hs_ hf_ hd_
      refine W.step [] (Sub.refl _) ?_
      refine W.move rfl rfl ?_
      refine W.nil ?_
      exact At.step (Ext.refl _) rfl
    exact trivial
  · intro L_ wr hX2 hs_ hv_
    obtain ⟨v5, e5, r5⟩ := hv_ 5 (by decide)
    obtain rfl : (.slice ah (heldL s.l name).length ch : Value) = v5 := Eq.symm r5
    obtain ⟨v6, e6, r6⟩ := hv_ 6 (by decide)
    obtain rfl : (.int .i64 ((heldL s.l name).length : Int) : Value) = v6 := Eq.symm r6
    obtain ⟨v7, e7, r7⟩ := hv_ 7 (by decide)
    obtain rfl : (.int .i64 0 : Value) = v7 := Eq.symm r7
    refine W.weaken (l' := [(17, _), (18, _), (19, _), (0, _), (2, _), (3, _), (5, _), (9, _)]) (Sub.cons (e5 _ rfl) (Sub.cons (e6 _ rfl) (Sub.cons (e7 _ rfl) (Sub.cons (hs_ _ _ rfl) (Sub.cons (hs_ _ _ rfl) (Sub.cons (hs_ _ _ rfl) (Sub.cons (hs_ _ _ rfl) (Sub.cons (hs_ _ _ rfl) (Sub.nil))))))))) ?_
    refine W.nil ?_
    refine At.thenCode ?_
    refine C.block ?_
    refine C.loop (X := Nat × Value) (fun x_ => [(2, .int .i64 a), (3, .int .i64 c), (5, .pointer (some ⟨g5, 0, none⟩)), (9, x_.2), (17, .slice ah (heldL s.l name).length ch), (18, .int .i64 ((heldL s.l name).length : Int)), (19, .int .i64 (x_.1 : Int))]) (fun x_ wl => x_.1 ≤ (heldL s.l name).length ∧ Ext wr wl ∧ OwE (fun k => k < w.heap.size) wl wr.heap.size 53 33 RLet x_.2 (fetchH ((heldL s.l name).take x_.1) name a c)) (fun x_ => (heldL s.l name).length - x_.1) (0, Value.slice none 0 0) (Sub.cons (rfl) (Sub.cons (rfl) (Sub.cons (rfl) (Sub.cons (rfl) (Sub.cons (rfl) (Sub.cons (rfl) (Sub.cons (rfl) (Sub.nil)))))))) ?start1 ?_
    case start1 =>
      show (0) ≤ (heldL s.l name).length ∧ Ext wr _ ∧ OwE (fun k => k < w.heap.size) _ wr.heap.size 53 33 RLet (Value.slice none 0 0) (fetchH ((heldL s.l name).take (0)) name a c)
      exact ⟨by omega, Ext.refl _, OwE.nil _ _ _ _ _ _⟩
    rintro ⟨i, vo⟩ wl hI_
    replace hI_ : i ≤ (heldL s.l name).length ∧ Ext wr wl ∧ OwE (fun k => k < w.heap.size) wl wr.heap.size 53 33 RLet vo (fetchH ((heldL s.l name).take i) name a c) := hI_
    obtain ⟨hi, hXl, hOl⟩ := hI_
    refine C.weaken (l' := [(2, .int .i64 a), (3, .int .i64 c), (5, .pointer (some ⟨g5, 0, none⟩)), (9, vo), (17, .slice ah (heldL s.l name).length ch), (18, .int .i64 ((heldL s.l name).length : Int)), (19, .int .i64 (i : Int))]) (Sub.cons (rfl) (Sub.cons (rfl) (Sub.cons (rfl) (Sub.cons (rfl) (Sub.cons (rfl) (Sub.cons (rfl) (Sub.cons (rfl) (Sub.nil)))))))) ?_
    have hX2w := hX5.ext hX2
    have hEll := (hEl.ext rHeld hX2).ext rHeld hXl
    have hB5l := (hB5.ext hX2).ext hXl
    have hsl' := hXl.size
    have hs2 := hX2w.size
    have hfl := fetchH_len ((heldL s.l name).take i) name a c
    refine C.seq ?_
    refine C.region ?_
    refine W.lssI rfl rfl rfl ?_
    refine W.nil ?_
    refine At.thenCode ?_
    refine C.seq ?_
    first | refine C.condD rfl (fun c20 => ?_) (fun c20 => ?_) | refine C.cond rfl (fun c20 => ?_) (fun c20 => ?_)
    · have hilt : i < (heldL s.l name).length := by omega
      rw [List.length_take] at hfl
      refine C.skip ?_
      refine At.thenCode ?_
      refine C.seq ?_
      refine C.block ?_
      refine C.seq ?_
      refine C.region ?_
      refine W.indexE EHeld Try.underlying85 rfl hEll rfl hilt rfl ?_
      rintro ad21 hc21 hcs21 ⟨vb, rfl, hvb, hin⟩ hl21
      obtain ⟨hd, hhd⟩ : ∃ hd, hd = (heldL s.l name)[i]'hilt := ⟨_, rfl⟩
      rw [← hhd] at hvb hin hcs21
      obtain ⟨ab, cb, rfl, hbs, _⟩ := RByt.form hvb
      refine W.loadA rfl hcs21 Try.underlying87 rfl (by kernel_rfl) rfl ?_
      refine W.alloc (z := .agg #[.int .i64 0, .slice none 0 0]) [.int .i64 0, .slice none 0 0] (by kernel_rfl) rfl rfl ?_
      intro g11 w11 hg11 hX11 hB11
      refine W.storeA [.int .i64 hd.1, .slice ab hd.2.length cb] rfl rfl hB11 rfl (by kernel_rfl) (by
        intro u hu
        simp only [List.mem_cons, List.not_mem_nil, or_false] at hu
        rcases hu with rfl | rfl <;> rfl) ?_
      intro w12 hC12 hB12
      have hX12 : Ext wl w12 := hX11.news hC12 fun k hk => Or.inr (by omega)
      have hs12 := hX12.size
      have hO12 := OwE.ext rLet hOl hX12
      have hbl : hd.2.length ≤ 1000000000 := by
        have := held_body (l := s.l) (fun y hy => (batE_small (hS.ok.1 y hy).2).2.2) name hd (by rw [hhd]; exact List.getElem_mem hilt)
        omega
      refine W.nil ?_
      refine At.thenCode ?_
      refine C.seq ?_
      refine C.region ?_
      refine W.fieldB (off := 0) (size := 1) (t := 3) (Fld.of (by kernel_rfl)) rfl rfl rfl ?_
      refine W.loadB (v := .int .i64 hd.1) rfl Try.underlying3 rfl hB12 rfl rfl ?_
      refine W.move rfl rfl ?_
      refine W.geqI rfl rfl rfl ?_
      refine W.move rfl rfl ?_
      first | refine W.splitD (fun g27 => ?_) (fun g27 => ?_) | refine W.splitB (fun g27 => ?_) (fun g27 => ?_)
      · refine W.wants rfl rfl rfl rfl ?_
        refine W.fieldB (off := 0) (size := 1) (t := 3) (Fld.of (by kernel_rfl)) rfl rfl rfl ?_
        refine W.wants rfl rfl rfl rfl ?_
        refine W.loadB (v := .int .i64 hd.1) rfl Try.underlying3 rfl hB12 rfl rfl ?_
        refine W.wants rfl rfl rfl rfl ?_
        refine W.move rfl rfl ?_
        refine W.wants rfl rfl rfl rfl ?_
        refine W.leqI rfl rfl rfl ?_
        refine W.pickT rfl rfl rfl ?_
        refine W.nil ?_
        refine At.thenCode ?_
        first | refine C.condD rfl (fun c32 => ?_) (fun c32 => ?_) | refine C.cond rfl (fun c32 => ?_) (fun c32 => ?_)
        · have hyes : a ≤ hd.1 ∧ hd.1 ≤ c := by omega
          have hno_ := hyes
          refine C.regionAny 7 ((fun v w => v = vo) :: (fun v w => v = keyV name) :: (fun v w => v = .pointer (some ⟨g11, 1, none⟩)) :: (fun v w => v = .slice ab hd.2.length cb) :: (fun v w => RByt (fun k => k < w12.heap.size) w [v] hd.2) :: (fun v w => ∃ cs : List Value, v = .agg cs.toArray ∧ RLet (fun k => k < w12.heap.size) w cs (name, hd.2) ∧ cs.length = 33) :: (fun v w => ∃ a c, v = .slice a 1 c ∧ Els (fun k => k < w12.heap.size) w 33 RLet a c [(name, hd.2)]) :: []) [(2, .int .i64 a), (3, .int .i64 c), (5, .pointer (some ⟨g5, 0, none⟩)), (9, vo), (11, .pointer (some ⟨g11, 0, none⟩)), (17, .slice ah (heldL s.l name).length ch), (18, .int .i64 ((heldL s.l name).length : Int)), (19, .int .i64 (i : Int))] [] (Sub.cons (rfl) (Sub.cons (rfl) (Sub.cons (rfl) (Sub.cons (rfl) (Sub.cons (rfl) (Sub.cons (rfl) (Sub.cons (rfl) (Sub.cons (rfl) (Sub.nil))))))))) (Sub.nil) (Sub.cons (rfl) (Sub.cons (rfl) (Sub.cons (rfl) (Sub.cons (rfl) (Sub.cons (rfl) (Sub.cons (rfl) (Sub.cons (rfl) (Sub.cons (rfl) (Sub.nil))))))))) (by kernel_rfl) rfl rfl rfl (And.intro (fun _ _ _ h _ => h) (And.intro (fun _ _ _ h _ => h) (And.intro (fun _ _ _ h _ => h) (And.intro (fun _ _ _ h _ => h) (And.intro (fun _ _ _ h g => rByt.ext h g) (And.intro (fun _ _ _ h g => by obtain ⟨cs, e, h1, q⟩ := h; exact ⟨cs, e, rLet.ext h1 g, q⟩) (And.intro (fun _ _ _ h g => by obtain ⟨a1, c1, e, h1⟩ := h; exact ⟨a1, c1, e, Els.ext rLet h1 g⟩) (trivial)))))))) ?_ ?_
          · refine And.intro ?_ ?_
            · intro L_ wq hX_ hs_ hf_ hd_
              refine W.step [(9, _)] (Sub.cons (hs_ _ _ rfl) (Sub.refl _)) ?_
              refine W.move rfl rfl ?_
              refine W.nil ?_
              exact At.step (Ext.refl _) rfl
            refine And.intro ?_ ?_
            · intro L_ wq hX_ hs_ hf_ hd_
              refine W.step [(5, _)] (Sub.cons (hs_ _ _ rfl) (Sub.refl _)) ?_
              refine W.loadA rfl (((hB5l.ext hX12).ext hX_).cells (o := 0)) Try.underlying50 rfl (by rw [List.drop_zero, List.length_map, hnl]; kernel_rfl) rfl ?_
              rw [List.drop_zero]
              refine W.nil ?_
              exact At.step (Ext.refl _) rfl
            refine And.intro ?_ ?_
            · intro L_ wq hX_ hs_ hf_ hd_
              refine W.step [(11, _)] (Sub.cons (hs_ _ _ rfl) (Sub.refl _)) ?_
              refine W.fieldB (off := 1) (size := 1) (t := 51) (Fld.of (by kernel_rfl)) rfl rfl rfl ?_
              refine W.nil ?_
              exact At.step (Ext.refl _) rfl
            refine And.intro ?_ ?_
            · intro L_ wq hX_ hs_ hf_ hd_
              obtain ⟨v2, e2, r2⟩ := hd_ 2 rfl
              obtain rfl : (.pointer (some ⟨g11, 1, none⟩) : Value) = v2 := Eq.symm r2
              refine W.step [(35, _)] (Sub.cons (e2 _ rfl) (Sub.refl _)) ?_
              refine W.loadB (v := .slice ab hd.2.length cb) rfl Try.underlying51 rfl (hB12.ext hX_) rfl rfl ?_
              refine W.nil ?_
              exact At.step (Ext.refl _) rfl
            refine And.intro ?_ ?_
            · intro L_ wq hX_ hs_ hf_ hd_
              obtain ⟨v3, e3, r3⟩ := hd_ 3 rfl
              obtain rfl : (.slice ab hd.2.length cb : Value) = v3 := Eq.symm r3
              refine W.step [(36, _)] (Sub.cons (e3 _ rfl) (Sub.refl _)) ?_
              refine W.call Try.call37 rfl (Disk.cloneB_ok ab cb hd.2 _ ((hbs.ext hX12).ext hX_) (by omega)) rfl ?_
              rintro v37 w37 ⟨ho37, hX37⟩
              obtain ⟨a37, c37, rfl, hS37, hq37⟩ := ownsRow_form ho37
              refine W.nil ?_
              exact At.step hX37 ⟨a37, c37, rfl, hS37, fun ad e _ hA => by have := hq37 ad e; have := hX_.size; omega⟩
            refine And.intro ?_ ?_
            · intro L_ wq hX_ hs_ hf_ hd_
              obtain ⟨v1, e1, r1⟩ := hd_ 1 rfl
              obtain rfl : (keyV name : Value) = v1 := Eq.symm r1
              obtain ⟨v4, e4, r4⟩ := hd_ 4 rfl
              obtain ⟨a4, c4, rfl, hb4, hn4⟩ := RByt.form (show RByt (fun k => k < w12.heap.size) _ [_] hd.2 from r4)
              refine W.step [(34, _), (37, _)] (Sub.cons (e1 _ rfl) (Sub.cons (e4 _ rfl) (Sub.refl _))) ?_
              refine W.buildS (fs := _) [(0, 32), (32, 1)] (name.map byteV ++ [Value.slice a4 hd.2.length c4]) LZ Try.underlying53 (by kernel_rfl) (by kernel_rfl) rfl (by rw [fill_cons (us := name.map byteV) (off := 0) rfl (by rw [List.length_map, hnl]; rfl) (by rw [List.length_map, hnl]; decide), LZ_key hnl, fill_cons (us := [Value.slice a4 hd.2.length c4]) (off := 32) rfl rfl (by simp; omega), LZ_box hnl]; rfl) rfl ?_
              refine W.nil ?_
              exact At.step (Ext.refl _) ⟨_, rfl, ⟨_, rfl, r4, hnl⟩, by simp [hnl]⟩
            refine And.intro ?_ ?_
            · intro L_ wq hX_ hs_ hf_ hd_
              obtain ⟨v5, e5, r5⟩ := hd_ 5 rfl
              obtain ⟨cs5, rfl, hR5, hl5⟩ := r5
              refine W.step [(38, _)] (Sub.cons (e5 _ rfl) (Sub.refl _)) ?_
              refine W.litS cs5 ELet Try.underlying31 rfl hl5 (by decide) rfl ?_
              intro g39 w39 hg39 hX39 _ hs39
              refine W.nil ?_
              exact At.step hX39 ⟨_, _, rfl, Els.lit hs39 (rLet.ext hR5 hX39) (by have := hX_.size; omega)⟩
            exact trivial
          · intro L_ wq hX6 hs_ hv_
            obtain ⟨v0, e0, r0⟩ := hv_ 0 (by decide)
            obtain rfl : (vo : Value) = v0 := Eq.symm r0
            obtain ⟨v6, e6, r6⟩ := hv_ 6 (by decide)
            obtain ⟨a6, c6, rfl, hE6⟩ := r6
            refine W.weaken (l' := [(33, _), (39, _), (2, _), (3, _), (5, _), (9, _), (11, _), (17, _), (18, _), (19, _)]) (Sub.cons (e0 _ rfl) (Sub.cons (e6 _ rfl) (Sub.cons (hs_ _ _ rfl) (Sub.cons (hs_ _ _ rfl) (Sub.cons (hs_ _ _ rfl) (Sub.cons (hs_ _ _ rfl) (Sub.cons (hs_ _ _ rfl) (Sub.cons (hs_ _ _ rfl) (Sub.cons (hs_ _ _ rfl) (Sub.cons (hs_ _ _ rfl) (Sub.nil))))))))))) ?_
            have hXq := hX6
            have hsq := hXq.size
            have hvlt := fun k hk => (OwE.lt hO12 k hk)
            refine W.appendE (A := fun k => k < w.heap.size) (ys := [(name, hd.2)]) rLet ELet Try.underlying31 rfl rfl (OwE.ext rLet hO12 hXq) (Els.new rLet hE6 fun k hk _ => by
              rcases hk with hk | hk
              · omega
              · exact (hvlt k hk).2) (by simp only [List.length_singleton]; omega) (by simp only [List.length_singleton]; omega) (by omega) rfl ?_
            intro v40 w40 ho40 hg40 hv40
            have hX40 : Ext wr w40 := ((hXl.ext hX12).ext hXq).news (Chg.of_grown hg40) fun k hk => Or.inr (hvlt k hk.symm).1
            refine W.assign rfl rfl ?_
            refine W.nil ?_
            refine At.blockNormal ?_
            refine At.thenCode ?_
            refine C.region ?_
            first | refine W.addI rfl rfl (by omega) rfl ?_ | refine W.addW rfl rfl rfl ?_
            refine W.move rfl rfl ?_
            refine W.nil ?_
            refine At.thenRound (i + 1, v40) (Sub.cons (rfl) (Sub.cons (rfl) (Sub.cons (rfl) (Sub.cons (rfl) (Sub.cons (rfl) (Sub.cons (rfl) (Sub.cons (look_eq rfl (iV (by omega))) (Sub.nil)))))))) (show (i + 1) ≤ (heldL s.l name).length ∧ Ext wr _ ∧ OwE (fun k => k < w.heap.size) _ wr.heap.size 53 33 RLet (v40) (fetchH ((heldL s.l name).take (i + 1)) name a c) from ?_) (show (heldL s.l name).length - (i + 1) < (heldL s.l name).length - i from ?_)
            · refine ⟨by omega, hX40, ?_⟩
              rw [fetchH_step hilt, ← hhd, if_pos hyes]
              exact ho40
            · omega
        · refine C.skip ?_
          refine At.blockNormal ?_
          refine At.thenCode ?_
          refine C.region ?_
          first | refine W.addI rfl rfl (by omega) rfl ?_ | refine W.addW rfl rfl rfl ?_
          refine W.move rfl rfl ?_
          refine W.nil ?_
          have hno2 : ¬ (a ≤ hd.1 ∧ hd.1 ≤ c) := by omega
          refine At.thenRound (i + 1, vo) (Sub.cons (rfl) (Sub.cons (rfl) (Sub.cons (rfl) (Sub.cons (rfl) (Sub.cons (rfl) (Sub.cons (rfl) (Sub.cons (look_eq rfl (iV (by omega))) (Sub.nil)))))))) (show (i + 1) ≤ (heldL s.l name).length ∧ Ext wr _ ∧ OwE (fun k => k < w.heap.size) _ wr.heap.size 53 33 RLet (vo) (fetchH ((heldL s.l name).take (i + 1)) name a c) from ?_) (show (heldL s.l name).length - (i + 1) < (heldL s.l name).length - i from ?_)
          · refine ⟨by omega, hXl.ext hX12, ?_⟩
            rw [fetchH_step hilt, ← hhd, if_neg hno2, List.append_nil]
            exact hO12
          · omega
      · refine W.skips rfl rfl rfl rfl rfl rfl ?_
        refine W.skips rfl rfl rfl rfl rfl rfl ?_
        refine W.skips rfl rfl rfl rfl rfl rfl ?_
        refine W.skips rfl rfl rfl rfl rfl rfl ?_
        refine W.pickF rfl rfl rfl ?_
        refine W.nil ?_
        refine At.thenCode ?_
        refine C.condF rfl ?_
        refine C.skip ?_
        refine At.blockNormal ?_
        refine At.thenCode ?_
        refine C.region ?_
        first | refine W.addI rfl rfl (by omega) rfl ?_ | refine W.addW rfl rfl rfl ?_
        refine W.move rfl rfl ?_
        refine W.nil ?_
        have hno2 : ¬ (a ≤ hd.1 ∧ hd.1 ≤ c) := by omega
        refine At.thenRound (i + 1, vo) (Sub.cons (rfl) (Sub.cons (rfl) (Sub.cons (rfl) (Sub.cons (rfl) (Sub.cons (rfl) (Sub.cons (rfl) (Sub.cons (look_eq rfl (iV (by omega))) (Sub.nil)))))))) (show (i + 1) ≤ (heldL s.l name).length ∧ Ext wr _ ∧ OwE (fun k => k < w.heap.size) _ wr.heap.size 53 33 RLet (vo) (fetchH ((heldL s.l name).take (i + 1)) name a c) from ?_) (show (heldL s.l name).length - (i + 1) < (heldL s.l name).length - i from ?_)
        · refine ⟨by omega, hXl.ext hX12, ?_⟩
          rw [fetchH_step hilt, ← hhd, if_neg hno2, List.append_nil]
          exact hO12
        · omega
    · obtain rfl : i = (heldL s.l name).length := by omega
      rw [List.take_length] at hOl
      refine C.exit ?_
      refine At.thenExit ?_
      refine At.thenExit ?_
      refine At.blockSelf ?_
      refine At.thenCode ?_
      refine C.seq ?_
      refine C.region ?_
      refine W.move rfl rfl ?_
      refine W.assign rfl rfl ?_
      refine W.nil ?_
      refine At.thenCode ?_
      refine C.ret ?_
      refine At.ret1 Try.results20 rfl ?_
      have hform := OwE.form rLet (OwE.new rLet hOl (B := fun k => k < w.heap.size) fun k hk _ => .inl hk) (fun k hk hkl => by have := (OwE.lt hOl k hk).1; omega)
      obtain ⟨ao, co, rfl, hEo, _⟩ := hform
      exact ⟨ao, co, rfl, hEo, hX2w.ext hXl⟩
end Go.Proofs.Ythiijdbiikljpaa.Mbx
