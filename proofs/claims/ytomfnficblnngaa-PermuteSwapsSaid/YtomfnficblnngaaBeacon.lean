/- Package beacon and the reference's streams of chapter 12. -/
import Derived.Test.YtomfnficblnngaaRSha
import Derived.Test.YtomfnficblnngaaDiv1
import Derived.Test.YtomfnficblnngaaKx
import Derived.Test.YtomfnficblnngaaKe
namespace Go.Proofs.Ytomfnficblnngaa.Beacon
open Go Go.RowKit Go.Proofs.Ytomfnficblnngaa.KW Go.Proofs.Ytomfnficblnngaa.Words Go.Proofs.Ytomfnficblnngaa.Sha Go.Proofs.Ytomfnficblnngaa.RSha
set_option linter.unusedVariables false
set_option linter.unusedSimpArgs false
set_option maxRecDepth 100000

def stC (seed name : List UInt8) (i : Nat) (sum : List UInt8) : List Value := seed.map byteV ++ (strV name :: .int .u64 (i : Int) :: sum.map byteV)
theorem stC_length (seed name : List UInt8) (i : Nat) (sum : List UInt8) : (stC seed name i sum).length = seed.length + (sum.length + 2) := by simp [stC]
theorem stC_name {seed : List UInt8} (hs : seed.length = 32) (name : List UInt8) (i : Nat) (sum : List UInt8) : (stC seed name i sum)[32]? = some (strV name) := by
  unfold stC; rw [List.getElem?_append_right (by rw [List.length_map, hs]; exact Nat.le_refl _), List.length_map, hs]; rfl
theorem stC_next {seed : List UInt8} (hs : seed.length = 32) (name : List UInt8) (i : Nat) (sum : List UInt8) : (stC seed name i sum)[33]? = some (.int .u64 (i : Int)) := by
  unfold stC; rw [List.getElem?_append_right (by rw [List.length_map, hs]; decide), List.length_map, hs]; rfl
theorem stC_seed {seed : List UInt8} (hs : seed.length = 32) (name : List UInt8) (i : Nat) (sum : List UInt8) : (stC seed name i sum).take 32 = seed.map byteV := by
  unfold stC; rw [List.take_append_of_le_length (by rw [List.length_map, hs]; exact Nat.le_refl _), List.take_of_length_le (by rw [List.length_map, hs]; exact Nat.le_refl _)]
theorem stC_sum {seed : List UInt8} (hs : seed.length = 32) (name : List UInt8) (i : Nat) (sum : List UInt8) : (stC seed name i sum).drop 34 = sum.map byteV := by
  unfold stC
  rw [List.drop_append, List.length_map, hs, List.drop_of_length_le (by rw [List.length_map, hs]; decide)]
  rfl
theorem stC_set {seed : List UInt8} (hs : seed.length = 32) (name : List UInt8) (i j : Nat) (sum : List UInt8) : (stC seed name i sum).set 33 (.int .u64 (j : Int)) = stC seed name j sum := by
  unfold stC
  rw [List.set_append_right _ _ (by rw [List.length_map, hs]; decide), List.length_map, hs]
  rfl
theorem splice_app (a b us : List Value) : KW.splice (a ++ b) a.length us = a ++ KW.splice b 0 us := by
  have : ∀ (us b : List Value) (o : Nat), KW.splice (a ++ b) (a.length + o) us = a ++ KW.splice b o us := by
    intro us
    induction us with
    | nil => intro b o; rfl
    | cons u r ih => intro b o; rw [KW.splice, KW.splice, List.set_append_right _ _ (by omega), Nat.add_sub_cancel_left, Nat.add_assoc, ih]
  exact this us b 0
theorem splice_mid (a b c us : List Value) (h : us.length = b.length) : KW.splice (a ++ (b ++ c)) a.length us = a ++ (us ++ c) := by
  rw [splice_app]
  congr 1
  apply List.ext_getElem?
  intro i
  rw [splice_get us (b ++ c) 0 i (by rw [List.length_append]; omega), List.getElem?_append, List.getElem?_append]
  by_cases hi : i < us.length
  · rw [if_pos ⟨by omega, by omega⟩, if_pos hi, Nat.sub_zero]
  · rw [if_neg (by omega), if_neg (by omega), if_neg hi, h]
theorem stC_splice {seed : List UInt8} (hs : seed.length = 32) (name : List UInt8) (i : Nat) (sum sum' : List UInt8) (h : sum'.length = sum.length) : KW.splice (stC seed name i sum) 34 (sum'.map byteV) = stC seed name i sum' := by
  have h1 : ∀ s : List UInt8, stC seed name i s = (seed.map byteV ++ [strV name, .int .u64 (i : Int)]) ++ (s.map byteV ++ []) := fun s => by unfold stC; simp
  have h2 : (seed.map byteV ++ [strV name, .int .u64 (i : Int)]).length = 34 := by simp [hs]
  rw [h1 sum, h1 sum']
  have := splice_mid (seed.map byteV ++ [strV name, .int .u64 (i : Int)]) (sum.map byteV) [] (sum'.map byteV) (by rw [List.length_map, List.length_map, h])
  rwa [h2] at this
theorem fill_st (pl : List (Nat × Nat)) (p0 : pl[0]? = some (0, 32)) (p1 : pl[1]? = some (32, 1)) (seed name : List UInt8) (hs : seed.length = 32) (tail : List Value) :
    Instr.fill (fun i => pl[i]?) (List.replicate 32 (byteV 0) ++ (strV [] :: .int .u64 ((0 : Nat) : Int) :: tail)).toArray [(0, keyV seed), (1, strV name)] = some (seed.map byteV ++ (strV name :: .int .u64 ((0 : Nat) : Int) :: tail)).toArray := by
  have hl : (seed.map byteV).length = 32 := by rw [List.length_map, hs]
  rw [fill_cons (us := seed.map byteV) (off := 0) rfl (by rw [hl]; exact p0) (by simp [hl])]
  have e1 := splice_mid [] (List.replicate 32 (byteV 0)) (strV [] :: .int .u64 ((0 : Nat) : Int) :: tail) (seed.map byteV) (by rw [hl, List.length_replicate])
  rw [List.nil_append, List.nil_append] at e1
  rw [show ([] : List Value).length = 0 from rfl] at e1
  rw [e1, fill_cons (us := [strV name]) (off := 32) rfl p1 (by simp [hl]; omega)]
  have e2 := splice_mid (seed.map byteV) [strV []] (.int .u64 ((0 : Nat) : Int) :: tail) [strV name] rfl
  rw [hl] at e2
  show Instr.fill _ (KW.splice (List.map byteV seed ++ ([strV []] ++ (.int .u64 ((0 : Nat) : Int) :: tail))) 32 [strV name]).toArray [] = _
  rw [e2]
  rfl

def sumV (seed name : List UInt8) (j : Nat) : List UInt8 := shaV (partsV [seed, name, be64 j])
theorem sumV_length (seed name : List UInt8) (j : Nat) : (sumV seed name j).length = 32 := shaV_length _
def wordV (seed name : List UInt8) (i : Nat) : Nat := getV (sumV seed name (i / 4)) ((8 * (i % 4) : Nat) : Int) 8
theorem wordV_lt (seed name : List UInt8) (i : Nat) : wordV seed name i < 18446744073709551616 := getV_lt _ _ 8
/-- The package's stream. -/
def St (w : World) (g : Nat) (seed name : List UInt8) (i : Nat) : Prop := ∃ sum : List UInt8, sum.length = 32 ∧ (¬ i % 4 = 0 → sum = sumV seed name (i / 4)) ∧ Bk w g (stC seed name i sum)
theorem St.chg {w w' : World} {g : Nat} {seed name : List UInt8} {i : Nat} {S : Nat → Prop} (h : St w g seed name i) (c : Chg S w w') (hn : ¬ S g) : St w' g seed name i := by
  obtain ⟨sum, h1, h2, h3⟩ := h
  exact ⟨sum, h1, h2, h3.chg c hn⟩
theorem St.ext {w w' : World} {g : Nat} {seed name : List UInt8} {i : Nat} (h : St w g seed name i) (c : Ext w w') : St w' g seed name i := h.chg c fun x => x
theorem St.lt {w : World} {g : Nat} {seed name : List UInt8} {i : Nat} (h : St w g seed name i) : g < w.heap.size := by
  obtain ⟨sum, h1, h2, h3⟩ := h
  exact h3.lt
/-- The reference's stream. -/
def RSt (w : World) (g : Nat) (seed name : List UInt8) (i : Nat) : Prop := Bk w g (stC seed name i [])
theorem RSt.chg {w w' : World} {g : Nat} {seed name : List UInt8} {i : Nat} {S : Nat → Prop} (h : RSt w g seed name i) (c : Chg S w w') (hn : ¬ S g) : RSt w' g seed name i := Bk.chg h c hn
theorem RSt.ext {w w' : World} {g : Nat} {seed name : List UInt8} {i : Nat} (h : RSt w g seed name i) (c : Ext w w') : RSt w' g seed name i := Bk.ext h c
theorem RSt.lt {w : World} {g : Nat} {seed name : List UInt8} {i : Nat} (h : RSt w g seed name i) : g < w.heap.size := Bk.lt h
theorem parts3_length (a b c : List UInt8) : (partsV [a, b, c]).length = a.length + b.length + c.length + 24 := by
  simp only [partsV, List.length_append, be64_length, List.length_nil]
  omega
theorem New_ok (seed name : List UInt8) (w : World) (hs : seed.length = 32) :
    Ct Try.prog 14 #[keyV seed, strV name] w (fun v w' => (∃ g, v = .pointer (some ⟨g, 0, none⟩) ∧ w.heap.size ≤ g ∧ St w' g seed name 0) ∧ Ext w w') := by
  refine Ct.enter [(0, keyV seed), (1, strV name)] Try.func14 rfl rfl rfl rfl ?_
  refine C.seq ?_
  refine C.region ?_
  refine W.box (seed.map byteV) rfl rfl rfl ?_
  intro g2 w2 hg2 hX2 hB2
  refine W.assign rfl rfl ?_
  refine W.nil ?_
  refine At.thenCode ?_
  refine C.seq ?_
  refine C.region ?_
  have hc2 : Cells w2 ⟨g2, 0, none⟩ (seed.map byteV) := by have := hB2.cells (o := 0); rwa [List.drop_zero] at this
  refine W.loadA rfl hc2 Try.underlying23 rfl (by rw [List.length_map, hs]; kernel_rfl) rfl ?_
  refine W.move rfl rfl ?_
  refine W.buildS [(0, 32), (32, 1), (33, 1), (34, 32)] (stC seed name 0 (List.replicate 32 0)) (List.replicate 32 (byteV 0) ++ (strV [] :: .int .u64 ((0 : Nat) : Int) :: List.replicate 32 (byteV 0))) Try.underlying70 (by kernel_rfl) (by kernel_rfl) rfl (by rw [stC, List.map_replicate]; exact fill_st [(0, 32), (32, 1), (33, 1), (34, 32)] rfl rfl seed name hs _) rfl ?_
  refine W.box (stC seed name 0 (List.replicate 32 0)) rfl rfl rfl ?_
  intro g8 w8 hg8 hX8 hB8
  refine W.assign rfl rfl ?_
  refine W.nil ?_
  refine At.thenCode ?_
  refine C.ret ?_
  refine At.ret1 Try.results14 rfl ?_
  exact ⟨⟨g8, rfl, by have := hX2.size; omega, List.replicate 32 0, by rw [List.length_replicate], fun h => absurd rfl h, hB8⟩, hX2.ext hX8⟩
theorem RNew_ok (seed name : List UInt8) (w : World) (hs : seed.length = 32) :
    Ct Try.prog 15 #[keyV seed, strV name] w (fun v w' => (∃ g, v = .pointer (some ⟨g, 0, none⟩) ∧ w.heap.size ≤ g ∧ RSt w' g seed name 0) ∧ Ext w w') := by
  refine Ct.enter [(0, keyV seed), (1, strV name)] Try.func15 rfl rfl rfl rfl ?_
  refine C.seq ?_
  refine C.region ?_
  refine W.box (seed.map byteV) rfl rfl rfl ?_
  intro g2 w2 hg2 hX2 hB2
  refine W.assign rfl rfl ?_
  refine W.nil ?_
  refine At.thenCode ?_
  refine C.seq ?_
  refine C.region ?_
  have hc2 : Cells w2 ⟨g2, 0, none⟩ (seed.map byteV) := by have := hB2.cells (o := 0); rwa [List.drop_zero] at this
  refine W.loadA rfl hc2 Try.underlying23 rfl (by rw [List.length_map, hs]; kernel_rfl) rfl ?_
  refine W.move rfl rfl ?_
  refine W.buildS [(0, 32), (32, 1), (33, 1)] (stC seed name 0 []) (List.replicate 32 (byteV 0) ++ (strV [] :: .int .u64 ((0 : Nat) : Int) :: [])) Try.underlying72 (by kernel_rfl) (by kernel_rfl) rfl (by exact fill_st [(0, 32), (32, 1), (33, 1)] rfl rfl seed name hs _) rfl ?_
  refine W.box (stC seed name 0 []) rfl rfl rfl ?_
  intro g8 w8 hg8 hX8 hB8
  refine W.assign rfl rfl ?_
  refine W.nil ?_
  refine At.thenCode ?_
  refine C.ret ?_
  refine At.ret1 Try.results15 rfl ?_
  exact ⟨⟨g8, rfl, by have := hX2.size; omega, hB8⟩, hX2.ext hX8⟩
theorem bss3 {w : World} {q : Addr} {a1 a2 a3 : Option Addr} {c1 c2 c3 : Nat} {x1 x2 x3 : List UInt8} (h : Sl w (some q) 3 3 1 [.slice a1 x1.length c1, .slice a2 x2.length c2, .slice a3 x3.length c3]) (h1 : Bs w a1 c1 x1) (h2 : Bs w a2 c2 x2) (h3 : Bs w a3 c3 x3) : Bss w (some q) 3 [x1, x2, x3] :=
  ⟨_, h, fun i hi => by
    rcases (show i = 0 ∨ i = 1 ∨ i = 2 by simp at hi; omega) with rfl | rfl | rfl
    · exact ⟨_, rfl, _, _, rfl, h1⟩
    · exact ⟨_, rfl, _, _, rfl, h2⟩
    · exact ⟨_, rfl, _, _, rfl, h3⟩⟩
theorem St.sub {w : World} {g o n : Nat} {cs : List Value} {xs : List UInt8} (h : Bk w g cs) (e : (cs.drop o).take n = xs.map byteV) (hn : xs.length = n) : Bs w (some ⟨g, o, none⟩) n xs := by
  have h1 := h.cellsN (o := o) (n := n)
  rw [e] at h1
  exact ⟨by omega, by rw [List.length_map, Nat.mul_one], (fun e => by cases e), fun ad e => by obtain rfl := Option.some.inj e; exact h1⟩
theorem Word_ok (g : Nat) (seed name : List UInt8) (i : Nat) (w : World) (hs : seed.length = 32) (hn : name.length ≤ 100000) (hi : i ≤ 1000000000) (hS : St w g seed name i) :
    Ct Try.prog 16 #[.pointer (some ⟨g, 0, none⟩)] w (fun v w' => v = .int .u64 (wordV seed name i : Int) ∧ St w' g seed name (i + 1) ∧ Chg (fun k => k = g) w w') := by
  obtain ⟨sum, hl, hsum, hB⟩ := hS
  refine Ct.enter [(0, .pointer (some ⟨g, 0, none⟩))] Try.func16 rfl rfl rfl rfl ?_
  obtain ⟨S, hS⟩ : ∃ S, S = sumV seed name (i / 4) := ⟨_, rfl⟩
  have hSl : S.length = 32 := by rw [hS]; exact sumV_length _ _ _
  refine C.seq ?_
  refine C.region ?_
  refine W.assign rfl rfl ?_
  refine W.nil ?_
  refine At.thenCode ?_
  refine C.seq ?_
  refine C.region ?_
  refine W.move rfl rfl ?_
  refine W.nilCheck rfl rfl ?_
  refine W.fieldB (off := 33) (size := 1) (t := 30) (Fld.of (by kernel_rfl)) rfl rfl rfl ?_
  refine W.loadB rfl Try.underlying30 rfl hB (stC_next hs name i sum) rfl ?_
  refine W.remU (n := 4) rfl rfl (by omega) rfl ?_
  refine W.assign rfl rfl ?_
  refine W.nil ?_
  refine At.thenCode ?_
  refine C.seq ?_
  refine C.seq ?_
  refine C.region ?_
  refine W.move rfl rfl ?_
  refine W.eqlU (n := 0) rfl rfl rfl ?_
  refine W.nil ?_
  refine At.thenCode ?_
  first | refine C.condD rfl (fun c12 => ?_) (fun c12 => ?_) | refine C.cond rfl (fun c12 => ?_) (fun c12 => ?_)
  · refine C.regionAny 20 ((fun v w => v = .pointer (some ⟨g, 0, none⟩)) :: (fun v w => v = .pointer (some ⟨g, 0, none⟩)) :: (fun v w => v = .pointer (some ⟨g, 0, none⟩)) :: (fun v w => v = .pointer (some ⟨g, 0, none⟩)) :: (fun v w => v = .slice (some ⟨g, 0, none⟩) 32 32) :: (fun v w => v = .pointer (some ⟨g, 0, none⟩)) :: (fun v w => v = .pointer (some ⟨g, 0, none⟩)) :: (fun v w => v = .pointer (some ⟨g, 32, none⟩)) :: (fun v w => v = strV name) :: (fun v w => ∃ q c, v = .slice q name.length c ∧ Bs w q c name) :: (fun v w => v = .pointer (some ⟨g, 0, none⟩)) :: (fun v w => v = .pointer (some ⟨g, 0, none⟩)) :: (fun v w => v = .pointer (some ⟨g, 33, none⟩)) :: (fun v w => v = .int .u64 (i : Int)) :: (fun v w => v = .int .u64 ((i / 4 : Nat) : Int)) :: (fun v w => ∃ q c, v = .slice q (be64 (i / 4)).length c ∧ Bs w q c (be64 (i / 4))) :: (fun v w => ∃ q, v = .slice (some q) 3 3 ∧ Bss w (some q) 3 [seed, name, be64 (i / 4)]) :: (fun v w => v = keyV S) :: (fun v w => v = .pointer (some ⟨g, 0, none⟩)) :: (fun v w => v = .pointer (some ⟨g, 34, none⟩)) :: []) [(0, .pointer (some ⟨g, 0, none⟩)), (3, .int .u64 ((i % 4 : Nat) : Int))] [] (Sub.cons (rfl) (Sub.cons (rfl) (Sub.nil))) (Sub.nil) (Sub.cons (rfl) (Sub.cons (rfl) (Sub.nil))) (by kernel_rfl) rfl rfl rfl (And.intro (fun _ _ _ h _ => h) (And.intro (fun _ _ _ h _ => h) (And.intro (fun _ _ _ h _ => h) (And.intro (fun _ _ _ h _ => h) (And.intro (fun _ _ _ h _ => h) (And.intro (fun _ _ _ h _ => h) (And.intro (fun _ _ _ h _ => h) (And.intro (fun _ _ _ h _ => h) (And.intro (fun _ _ _ h _ => h) (And.intro (fun _ _ _ ⟨q, c, hv, h⟩ x => ⟨q, c, hv, h.ext x⟩) (And.intro (fun _ _ _ h _ => h) (And.intro (fun _ _ _ h _ => h) (And.intro (fun _ _ _ h _ => h) (And.intro (fun _ _ _ h _ => h) (And.intro (fun _ _ _ h _ => h) (And.intro (fun _ _ _ ⟨q, c, hv, h⟩ x => ⟨q, c, hv, h.ext x⟩) (And.intro (fun _ _ _ ⟨q, hv, h⟩ x => ⟨q, hv, h.ext x⟩) (And.intro (fun _ _ _ h _ => h) (And.intro (fun _ _ _ h _ => h) (And.intro (fun _ _ _ h _ => h) (trivial))))))))))))))))))))) ?_ ?_
    · refine And.intro ?_ ?_
      · intro L_ w3 hX_ hs_ hf_ hd_
        refine W.step [(0, _)] (Sub.cons (hs_ _ _ rfl) (Sub.refl _)) ?_
        refine W.move rfl rfl ?_
        refine W.nil ?_
        exact At.step (Ext.refl _) rfl
      refine And.intro ?_ ?_
      · intro L_ w3 hX_ hs_ hf_ hd_
        refine W.step [(0, _)] (Sub.cons (hs_ _ _ rfl) (Sub.refl _)) ?_
        refine W.move rfl rfl ?_
        refine W.nil ?_
        exact At.step (Ext.refl _) rfl
      refine And.intro ?_ ?_
      · intro L_ w3 hX_ hs_ hf_ hd_
        obtain ⟨v1, e1, r1⟩ := hd_ 1 rfl
        obtain rfl : (.pointer (some ⟨g, 0, none⟩) : Value) = v1 := Eq.symm r1
        refine W.step [(14, _)] (Sub.cons (e1 _ rfl) (Sub.refl _)) ?_
        refine W.nilCheck rfl rfl ?_
        refine W.nil ?_
        exact At.step (Ext.refl _) rfl
      refine And.intro ?_ ?_
      · intro L_ w3 hX_ hs_ hf_ hd_
        obtain ⟨v2, e2, r2⟩ := hd_ 2 rfl
        obtain rfl : (.pointer (some ⟨g, 0, none⟩) : Value) = v2 := Eq.symm r2
        refine W.step [(15, _)] (Sub.cons (e2 _ rfl) (Sub.refl _)) ?_
        refine W.fieldB (off := 0) (size := 32) (t := 23) (Fld.of (by kernel_rfl)) rfl rfl rfl ?_
        refine W.nil ?_
        exact At.step (Ext.refl _) rfl
      refine And.intro ?_ ?_
      · intro L_ w3 hX_ hs_ hf_ hd_
        obtain ⟨v3, e3, r3⟩ := hd_ 3 rfl
        obtain rfl : (.pointer (some ⟨g, 0, none⟩) : Value) = v3 := Eq.symm r3
        refine W.step [(16, _)] (Sub.cons (e3 _ rfl) (Sub.refl _)) ?_
        refine W.sliceA X8 Try.underlying23 rfl rfl ?_
        refine W.nil ?_
        exact At.step (Ext.refl _) rfl
      refine And.intro ?_ ?_
      · intro L_ w3 hX_ hs_ hf_ hd_
        refine W.step [(0, _)] (Sub.cons (hs_ _ _ rfl) (Sub.refl _)) ?_
        refine W.move rfl rfl ?_
        refine W.nil ?_
        exact At.step (Ext.refl _) rfl
      refine And.intro ?_ ?_
      · intro L_ w3 hX_ hs_ hf_ hd_
        obtain ⟨v5, e5, r5⟩ := hd_ 5 rfl
        obtain rfl : (.pointer (some ⟨g, 0, none⟩) : Value) = v5 := Eq.symm r5
        refine W.step [(18, _)] (Sub.cons (e5 _ rfl) (Sub.refl _)) ?_
        refine W.nilCheck rfl rfl ?_
        refine W.nil ?_
        exact At.step (Ext.refl _) rfl
      refine And.intro ?_ ?_
      · intro L_ w3 hX_ hs_ hf_ hd_
        obtain ⟨v6, e6, r6⟩ := hd_ 6 rfl
        obtain rfl : (.pointer (some ⟨g, 0, none⟩) : Value) = v6 := Eq.symm r6
        refine W.step [(19, _)] (Sub.cons (e6 _ rfl) (Sub.refl _)) ?_
        refine W.fieldB (off := 32) (size := 1) (t := 9) (Fld.of (by kernel_rfl)) rfl rfl rfl ?_
        refine W.nil ?_
        exact At.step (Ext.refl _) rfl
      refine And.intro ?_ ?_
      · intro L_ w3 hX_ hs_ hf_ hd_
        obtain ⟨v7, e7, r7⟩ := hd_ 7 rfl
        obtain rfl : (.pointer (some ⟨g, 32, none⟩) : Value) = v7 := Eq.symm r7
        refine W.step [(20, _)] (Sub.cons (e7 _ rfl) (Sub.refl _)) ?_
        refine W.loadB rfl Try.underlying9 rfl (hB.ext hX_) (stC_name hs name i sum) rfl ?_
        refine W.nil ?_
        exact At.step (Ext.refl _) rfl
      refine And.intro ?_ ?_
      · intro L_ w3 hX_ hs_ hf_ hd_
        obtain ⟨v8, e8, r8⟩ := hd_ 8 rfl
        obtain rfl : (strV name : Value) = v8 := Eq.symm r8
        refine W.step [(21, _)] (Sub.cons (e8 _ rfl) (Sub.refl _)) ?_
        refine W.strBytes Try.underlying9 Try.underlying40 Try.underlying5 rfl rfl ?_
        intro g22 c22 w22 hg22 hX22 hS22
        refine W.nil ?_
        exact At.step hX22 ⟨_, _, rfl, hS22⟩
      refine And.intro ?_ ?_
      · intro L_ w3 hX_ hs_ hf_ hd_
        refine W.step [(0, _)] (Sub.cons (hs_ _ _ rfl) (Sub.refl _)) ?_
        refine W.move rfl rfl ?_
        refine W.nil ?_
        exact At.step (Ext.refl _) rfl
      refine And.intro ?_ ?_
      · intro L_ w3 hX_ hs_ hf_ hd_
        obtain ⟨v10, e10, r10⟩ := hd_ 10 rfl
        obtain rfl : (.pointer (some ⟨g, 0, none⟩) : Value) = v10 := Eq.symm r10
        refine W.step [(23, _)] (Sub.cons (e10 _ rfl) (Sub.refl _)) ?_
        refine W.nilCheck rfl rfl ?_
        refine W.nil ?_
        exact At.step (Ext.refl _) rfl
      refine And.intro ?_ ?_
      · intro L_ w3 hX_ hs_ hf_ hd_
        obtain ⟨v11, e11, r11⟩ := hd_ 11 rfl
        obtain rfl : (.pointer (some ⟨g, 0, none⟩) : Value) = v11 := Eq.symm r11
        refine W.step [(24, _)] (Sub.cons (e11 _ rfl) (Sub.refl _)) ?_
        refine W.fieldB (off := 33) (size := 1) (t := 30) (Fld.of (by kernel_rfl)) rfl rfl rfl ?_
        refine W.nil ?_
        exact At.step (Ext.refl _) rfl
      refine And.intro ?_ ?_
      · intro L_ w3 hX_ hs_ hf_ hd_
        obtain ⟨v12, e12, r12⟩ := hd_ 12 rfl
        obtain rfl : (.pointer (some ⟨g, 33, none⟩) : Value) = v12 := Eq.symm r12
        refine W.step [(25, _)] (Sub.cons (e12 _ rfl) (Sub.refl _)) ?_
        refine W.loadB rfl Try.underlying30 rfl (hB.ext hX_) (stC_next hs name i sum) rfl ?_
        refine W.nil ?_
        exact At.step (Ext.refl _) rfl
      refine And.intro ?_ ?_
      · intro L_ w3 hX_ hs_ hf_ hd_
        obtain ⟨v13, e13, r13⟩ := hd_ 13 rfl
        obtain rfl : (.int .u64 (i : Int) : Value) = v13 := Eq.symm r13
        refine W.step [(26, _)] (Sub.cons (e13 _ rfl) (Sub.refl _)) ?_
        refine W.quoU (M := 18446744073709551616) (m := i) (n := 4) rfl rfl (by omega) rfl rfl rfl ?_
        refine W.eqv (v' := .int .u64 ((i / 4 : Nat) : Int)) (iV (by unfold quoM; omega)) ?_
        refine W.nil ?_
        exact At.step (Ext.refl _) rfl
      refine And.intro ?_ ?_
      · intro L_ w3 hX_ hs_ hf_ hd_
        obtain ⟨v14, e14, r14⟩ := hd_ 14 rfl
        obtain rfl : (.int .u64 ((i / 4 : Nat) : Int) : Value) = v14 := Eq.symm r14
        refine W.step [(27, _)] (Sub.cons (e14 _ rfl) (Sub.refl _)) ?_
        refine W.call Try.call44 rfl (Words.Put64_ok none 0 [] (i / 4) _ (Sl.none _ 1) (by decide)) rfl ?_
        rintro v28 w28 ⟨ho28, hX28⟩
        rw [List.nil_append] at ho28
        obtain ⟨a28, c28, rfl, hS28, _⟩ := ownsRow_form ho28
        refine W.nil ?_
        exact At.step hX28 ⟨_, _, rfl, hS28⟩
      refine And.intro ?_ ?_
      · intro L_ w3 hX_ hs_ hf_ hd_
        obtain ⟨v4, e4, r4⟩ := hd_ 4 rfl
        obtain rfl : (.slice (some ⟨g, 0, none⟩) 32 32 : Value) = v4 := Eq.symm r4
        obtain ⟨v9, e9, r9⟩ := hd_ 9 rfl
        obtain ⟨q9, c9, rfl, hS9⟩ := r9
        obtain ⟨v15, e15, r15⟩ := hd_ 15 rfl
        obtain ⟨q15, c15, rfl, hS15⟩ := r15
        refine W.step [(17, _), (22, _), (28, _)] (Sub.cons (e4 _ rfl) (Sub.cons (e9 _ rfl) (Sub.cons (e15 _ rfl) (Sub.refl _)))) ?_
        have hS4 : Bs w3 (some ⟨g, 0, none⟩) 32 seed := St.sub (hB.ext hX_) (by rw [List.drop_zero]; exact stC_seed hs name i sum) hs
        refine W.litV [.slice (some ⟨g, 0, none⟩) 32 32, .slice q9 name.length c9, .slice q15 (be64 (i / 4)).length c15] EB Try.underlying42 rfl rfl (fun u hu => by simp at hu; rcases hu with rfl | rfl | rfl <;> rfl) rfl rfl rfl ?_
        intro g29 w29 hg29 hX29 ho29 hs29
        have hs29 : Sl w29 (some ⟨g29, 0, none⟩) 3 3 1 [.slice (some ⟨g, 0, none⟩) 32 32, .slice q9 name.length c9, .slice q15 (be64 (i / 4)).length c15] := hs29
        rw [← hs] at hs29
        have hB29 := bss3 hs29 (by rw [hs]; exact hS4.ext hX29) (hS9.ext hX29) (hS15.ext hX29)
        refine W.nil ?_
        exact At.step hX29 ⟨_, rfl, hB29⟩
      refine And.intro ?_ ?_
      · intro L_ w3 hX_ hs_ hf_ hd_
        obtain ⟨v16, e16, r16⟩ := hd_ 16 rfl
        obtain ⟨q16, rfl, hS16⟩ := r16
        refine W.step [(29, _)] (Sub.cons (e16 _ rfl) (Sub.refl _)) ?_
        refine W.call Try.call43 rfl (RSha.Parts_ok _ _ [seed, name, be64 (i / 4)] _ hS16 (by simp) (by rw [parts3_length, be64_length]; omega)) rfl ?_
        rintro v30 w30 ⟨rfl, hX30⟩
        refine W.eqv (v' := keyV S) (by rw [hS]; rfl) ?_
        refine W.nil ?_
        exact At.step hX30 rfl
      refine And.intro ?_ ?_
      · intro L_ w3 hX_ hs_ hf_ hd_
        obtain ⟨v0, e0, r0⟩ := hd_ 0 rfl
        obtain rfl : (.pointer (some ⟨g, 0, none⟩) : Value) = v0 := Eq.symm r0
        refine W.step [(13, _)] (Sub.cons (e0 _ rfl) (Sub.refl _)) ?_
        refine W.nilCheck rfl rfl ?_
        refine W.nil ?_
        exact At.step (Ext.refl _) rfl
      refine And.intro ?_ ?_
      · intro L_ w3 hX_ hs_ hf_ hd_
        obtain ⟨v18, e18, r18⟩ := hd_ 18 rfl
        obtain rfl : (.pointer (some ⟨g, 0, none⟩) : Value) = v18 := Eq.symm r18
        refine W.step [(31, _)] (Sub.cons (e18 _ rfl) (Sub.refl _)) ?_
        refine W.fieldB (off := 34) (size := 32) (t := 23) (Fld.of (by kernel_rfl)) rfl rfl rfl ?_
        refine W.nil ?_
        exact At.step (Ext.refl _) rfl
      exact trivial
    · intro L_ w3 hX3 hs_ hv_
      obtain ⟨v19, e19, r19⟩ := hv_ 19 (by decide)
      obtain rfl : (.pointer (some ⟨g, 34, none⟩) : Value) = v19 := Eq.symm r19
      obtain ⟨v17, e17, r17⟩ := hv_ 17 (by decide)
      obtain rfl : (keyV S : Value) = v17 := Eq.symm r17
      refine W.weaken (l' := [(32, _), (30, _), (0, _), (3, _)]) (Sub.cons (e19 _ rfl) (Sub.cons (e17 _ rfl) (Sub.cons (hs_ _ _ rfl) (Sub.cons (hs_ _ _ rfl) (Sub.nil))))) ?_
      refine W.storeB (S.map byteV) rfl rfl rfl (hB.ext hX3) (by rw [stC_length, List.length_map]; omega) (by rw [List.length_map, hSl]; kernel_rfl) (bytes_oneCell _) ?_
      intro w4 hc4 hB4
      rw [stC_splice hs name i sum S (by omega)] at hB4
      have hC4 : Chg (fun k => k = g) w w4 := (hX3.mono fun _ x => x.elim).trans hc4
      refine W.nil ?_
      refine At.thenCode ?_
      refine C.seq ?_
      refine C.region ?_
      refine W.move rfl rfl ?_
      refine W.nilCheck rfl rfl ?_
      refine W.fieldB (off := 33) (size := 1) (t := 30) (Fld.of (by kernel_rfl)) rfl rfl rfl ?_
      refine W.loadB rfl Try.underlying30 rfl hB4 (stC_next hs name i S) rfl ?_
      refine W.addU (M := 18446744073709551616) (n := 1) rfl rfl rfl rfl rfl ?_
      refine W.eqv (v' := .int .u64 ((i + 1 : Nat) : Int)) (iV (by unfold addM; omega)) ?_
      refine W.nilCheck rfl rfl ?_
      refine W.fieldB (off := 33) (size := 1) (t := 30) (Fld.of (by kernel_rfl)) rfl rfl rfl ?_
      refine W.store1 rfl rfl rfl hB4 (by rw [stC_length]; omega) (by kernel_rfl) ?_
      intro w5 hc5 hB5
      rw [stC_set hs name i (i + 1) S] at hB5
      have hC5 := hC4.trans hc5
      refine W.nil ?_
      refine At.thenCode ?_
      refine C.seq ?_
      refine C.region ?_
      refine W.move rfl rfl ?_
      refine W.nilCheck rfl rfl ?_
      refine W.fieldB (off := 34) (size := 32) (t := 23) (Fld.of (by kernel_rfl)) rfl rfl rfl ?_
      refine W.sliceA X8 Try.underlying23 rfl rfl ?_
      refine W.move rfl rfl ?_
      refine W.mulU (M := 18446744073709551616) (m := 8) rfl rfl rfl rfl rfl ?_
      refine W.eqv (v' := .int .u64 ((8 * (i % 4) : Nat) : Int)) (iV (by unfold mulM; omega)) ?_
      first | refine W.convI rfl Try.underlying30 Try.underlying3 (by omega) rfl ?_ | refine W.conv rfl Try.underlying30 Try.underlying3 rfl ?_
      have hS5 : Bs w5 (some ⟨g, 34, none⟩) 32 S := St.sub hB5 (by rw [stC_sum hs, List.take_of_length_le (by rw [List.length_map]; omega)]) hSl
      have hg := Words.Get64_ok (some ⟨g, 34, none⟩) 32 S ((8 * (i % 4) : Nat) : Int) w5 hS5 (by omega) (by omega)
      rw [hSl] at hg
      refine W.call Try.call45 rfl hg rfl ?_
      rintro v48 w48 ⟨rfl, rfl⟩
      refine W.move rfl rfl ?_
      refine W.extract rfl rfl rfl ?_
      refine W.extract rfl rfl rfl ?_
      refine W.assign rfl rfl ?_
      refine W.assign rfl rfl ?_
      refine W.nil ?_
      refine At.thenCode ?_
      refine C.seq ?_
      refine C.region ?_
      refine W.move rfl rfl ?_
      refine W.assign rfl rfl ?_
      refine W.nil ?_
      refine At.thenCode ?_
      refine C.ret ?_
      refine At.ret1 Try.results16 rfl ?_
      refine ⟨by rw [wordV, ← hS]; rfl, ⟨S, hSl, fun h => ?_, hB5⟩, hC5⟩
      rw [hS, show (i + 1) / 4 = i / 4 by omega]
  · have hS4 : sum = S := by rw [hS]; exact hsum c12
    rw [hS4] at hB
    have hB4 := hB
    have hC4 : Chg (fun k => k = g) w w := (Ext.refl w).mono fun _ x => x.elim
    refine C.skip ?_
    refine At.thenCode ?_
    refine C.seq ?_
    refine C.region ?_
    refine W.move rfl rfl ?_
    refine W.nilCheck rfl rfl ?_
    refine W.fieldB (off := 33) (size := 1) (t := 30) (Fld.of (by kernel_rfl)) rfl rfl rfl ?_
    refine W.loadB rfl Try.underlying30 rfl hB4 (stC_next hs name i S) rfl ?_
    refine W.addU (M := 18446744073709551616) (n := 1) rfl rfl rfl rfl rfl ?_
    refine W.eqv (v' := .int .u64 ((i + 1 : Nat) : Int)) (iV (by unfold addM; omega)) ?_
    refine W.nilCheck rfl rfl ?_
    refine W.fieldB (off := 33) (size := 1) (t := 30) (Fld.of (by kernel_rfl)) rfl rfl rfl ?_
    refine W.store1 rfl rfl rfl hB4 (by rw [stC_length]; omega) (by kernel_rfl) ?_
    intro w5 hc5 hB5
    rw [stC_set hs name i (i + 1) S] at hB5
    have hC5 := hC4.trans hc5
    refine W.nil ?_
    refine At.thenCode ?_
    refine C.seq ?_
    refine C.region ?_
    refine W.move rfl rfl ?_
    refine W.nilCheck rfl rfl ?_
    refine W.fieldB (off := 34) (size := 32) (t := 23) (Fld.of (by kernel_rfl)) rfl rfl rfl ?_
    refine W.sliceA X8 Try.underlying23 rfl rfl ?_
    refine W.move rfl rfl ?_
    refine W.mulU (M := 18446744073709551616) (m := 8) rfl rfl rfl rfl rfl ?_
    refine W.eqv (v' := .int .u64 ((8 * (i % 4) : Nat) : Int)) (iV (by unfold mulM; omega)) ?_
    first | refine W.convI rfl Try.underlying30 Try.underlying3 (by omega) rfl ?_ | refine W.conv rfl Try.underlying30 Try.underlying3 rfl ?_
    have hS5 : Bs w5 (some ⟨g, 34, none⟩) 32 S := St.sub hB5 (by rw [stC_sum hs, List.take_of_length_le (by rw [List.length_map]; omega)]) hSl
    have hg := Words.Get64_ok (some ⟨g, 34, none⟩) 32 S ((8 * (i % 4) : Nat) : Int) w5 hS5 (by omega) (by omega)
    rw [hSl] at hg
    refine W.call Try.call45 rfl hg rfl ?_
    rintro v48 w48 ⟨rfl, rfl⟩
    refine W.move rfl rfl ?_
    refine W.extract rfl rfl rfl ?_
    refine W.extract rfl rfl rfl ?_
    refine W.assign rfl rfl ?_
    refine W.assign rfl rfl ?_
    refine W.nil ?_
    refine At.thenCode ?_
    refine C.seq ?_
    refine C.region ?_
    refine W.move rfl rfl ?_
    refine W.assign rfl rfl ?_
    refine W.nil ?_
    refine At.thenCode ?_
    refine C.ret ?_
    refine At.ret1 Try.results16 rfl ?_
    refine ⟨by rw [wordV, ← hS]; rfl, ⟨S, hSl, fun h => ?_, hB5⟩, hC5⟩
    rw [hS, show (i + 1) / 4 = i / 4 by omega]
theorem RWord_ok (g : Nat) (seed name : List UInt8) (i : Nat) (w : World) (hs : seed.length = 32) (hn : name.length ≤ 100000) (hi : i ≤ 1000000000) (hS : RSt w g seed name i) :
    Ct Try.prog 17 #[.pointer (some ⟨g, 0, none⟩)] w (fun v w' => v = .int .u64 (wordV seed name i : Int) ∧ RSt w' g seed name (i + 1) ∧ Chg (fun k => k = g) w w') := by
  have hB : Bk w g (stC seed name i []) := hS
  refine Ct.enter [(0, .pointer (some ⟨g, 0, none⟩))] Try.func17 rfl rfl rfl rfl ?_
  obtain ⟨S, hS⟩ : ∃ S, S = sumV seed name (i / 4) := ⟨_, rfl⟩
  have hSl : S.length = 32 := by rw [hS]; exact sumV_length _ _ _
  have hlt := hB.lt
  obtain ⟨N0, hN0⟩ : ∃ N0, N0 = w.heap.size := ⟨_, rfl⟩
  refine C.seq ?_
  refine C.region ?_
  refine W.assign rfl rfl ?_
  refine W.nil ?_
  refine At.thenCode ?_
  refine C.seq ?_
  refine C.regionAny 19 ((fun v w => v = .pointer (some ⟨g, 0, none⟩)) :: (fun v w => v = .pointer (some ⟨g, 0, none⟩)) :: (fun v w => v = .pointer (some ⟨g, 0, none⟩)) :: (fun v w => v = .slice (some ⟨g, 0, none⟩) 32 32) :: (fun v w => ∃ q c, v = .slice q seed.length c ∧ Bs w q c seed) :: (fun v w => v = .pointer (some ⟨g, 0, none⟩)) :: (fun v w => v = .pointer (some ⟨g, 0, none⟩)) :: (fun v w => v = .pointer (some ⟨g, 32, none⟩)) :: (fun v w => v = strV name) :: (fun v w => ∃ q c, v = .slice q name.length c ∧ Bs w q c name) :: (fun v w => v = .pointer (some ⟨g, 0, none⟩)) :: (fun v w => v = .pointer (some ⟨g, 0, none⟩)) :: (fun v w => v = .pointer (some ⟨g, 33, none⟩)) :: (fun v w => v = .int .u64 (i : Int)) :: (fun v w => v = .int .u64 ((i / 4 : Nat) : Int)) :: (fun v w => ∃ q c, v = .slice q (be64 (i / 4)).length c ∧ Bs w q c (be64 (i / 4))) :: (fun v w => ∃ q, v = .slice (some q) 3 3 ∧ Bss w (some q) 3 [seed, name, be64 (i / 4)]) :: (fun v w => v = keyV S) :: (fun v w => ∃ g, v = .pointer (some ⟨g, 0, none⟩) ∧ N0 ≤ g ∧ Bk w g (List.replicate 32 (byteV 0))) :: []) [(0, .pointer (some ⟨g, 0, none⟩))] [] (Sub.cons (rfl) (Sub.nil)) (Sub.nil) (Sub.cons (rfl) (Sub.nil)) (by kernel_rfl) rfl rfl rfl (And.intro (fun _ _ _ h _ => h) (And.intro (fun _ _ _ h _ => h) (And.intro (fun _ _ _ h _ => h) (And.intro (fun _ _ _ h _ => h) (And.intro (fun _ _ _ ⟨q, c, hv, h⟩ x => ⟨q, c, hv, h.ext x⟩) (And.intro (fun _ _ _ h _ => h) (And.intro (fun _ _ _ h _ => h) (And.intro (fun _ _ _ h _ => h) (And.intro (fun _ _ _ h _ => h) (And.intro (fun _ _ _ ⟨q, c, hv, h⟩ x => ⟨q, c, hv, h.ext x⟩) (And.intro (fun _ _ _ h _ => h) (And.intro (fun _ _ _ h _ => h) (And.intro (fun _ _ _ h _ => h) (And.intro (fun _ _ _ h _ => h) (And.intro (fun _ _ _ h _ => h) (And.intro (fun _ _ _ ⟨q, c, hv, h⟩ x => ⟨q, c, hv, h.ext x⟩) (And.intro (fun _ _ _ ⟨q, hv, h⟩ x => ⟨q, hv, h.ext x⟩) (And.intro (fun _ _ _ h _ => h) (And.intro (fun _ _ _ ⟨q, hv, hq, h⟩ x => ⟨q, hv, hq, h.ext x⟩) (trivial)))))))))))))))))))) ?_ ?_
  · refine And.intro ?_ ?_
    · intro L_ w3 hX_ hs_ hf_ hd_
      refine W.step [(0, _)] (Sub.cons (hs_ _ _ rfl) (Sub.refl _)) ?_
      refine W.move rfl rfl ?_
      refine W.nil ?_
      exact At.step (Ext.refl _) rfl
    refine And.intro ?_ ?_
    · intro L_ w3 hX_ hs_ hf_ hd_
      obtain ⟨v0, e0, r0⟩ := hd_ 0 rfl
      obtain rfl : (.pointer (some ⟨g, 0, none⟩) : Value) = v0 := Eq.symm r0
      refine W.step [(6, _)] (Sub.cons (e0 _ rfl) (Sub.refl _)) ?_
      refine W.nilCheck rfl rfl ?_
      refine W.nil ?_
      exact At.step (Ext.refl _) rfl
    refine And.intro ?_ ?_
    · intro L_ w3 hX_ hs_ hf_ hd_
      obtain ⟨v1, e1, r1⟩ := hd_ 1 rfl
      obtain rfl : (.pointer (some ⟨g, 0, none⟩) : Value) = v1 := Eq.symm r1
      refine W.step [(7, _)] (Sub.cons (e1 _ rfl) (Sub.refl _)) ?_
      refine W.fieldB (off := 0) (size := 32) (t := 23) (Fld.of (by kernel_rfl)) rfl rfl rfl ?_
      refine W.nil ?_
      exact At.step (Ext.refl _) rfl
    refine And.intro ?_ ?_
    · intro L_ w3 hX_ hs_ hf_ hd_
      obtain ⟨v2, e2, r2⟩ := hd_ 2 rfl
      obtain rfl : (.pointer (some ⟨g, 0, none⟩) : Value) = v2 := Eq.symm r2
      refine W.step [(8, _)] (Sub.cons (e2 _ rfl) (Sub.refl _)) ?_
      refine W.sliceA X8 Try.underlying23 rfl rfl ?_
      refine W.nil ?_
      exact At.step (Ext.refl _) rfl
    refine And.intro ?_ ?_
    · intro L_ w3 hX_ hs_ hf_ hd_
      obtain ⟨v3, e3, r3⟩ := hd_ 3 rfl
      obtain rfl : (.slice (some ⟨g, 0, none⟩) 32 32 : Value) = v3 := Eq.symm r3
      refine W.step [(9, _)] (Sub.cons (e3 _ rfl) (Sub.refl _)) ?_
      have hSs : Bs w3 (some ⟨g, 0, none⟩) 32 seed := St.sub (hB.ext hX_) (by rw [List.drop_zero]; exact stC_seed hs name i []) hs
      refine W.appendB (ys := seed) E8 Try.underlying40 rfl (look_eq rfl (by rw [hs])) (Ow.nil _ w.heap.size 5) hSs (by simp; omega) hX_.size rfl ?_
      rw [List.nil_append]
      intro v10 w10 ho10 hg10 _
      have hX10 : Ext w3 w10 := (Chg.of_grown hg10).mono fun k hk => by cases hk
      obtain ⟨q10, c10, rfl, hS10, _⟩ := ownsRow_form ho10
      refine W.nil ?_
      exact At.step hX10 ⟨_, _, rfl, hS10⟩
    refine And.intro ?_ ?_
    · intro L_ w3 hX_ hs_ hf_ hd_
      refine W.step [(0, _)] (Sub.cons (hs_ _ _ rfl) (Sub.refl _)) ?_
      refine W.move rfl rfl ?_
      refine W.nil ?_
      exact At.step (Ext.refl _) rfl
    refine And.intro ?_ ?_
    · intro L_ w3 hX_ hs_ hf_ hd_
      obtain ⟨v5, e5, r5⟩ := hd_ 5 rfl
      obtain rfl : (.pointer (some ⟨g, 0, none⟩) : Value) = v5 := Eq.symm r5
      refine W.step [(11, _)] (Sub.cons (e5 _ rfl) (Sub.refl _)) ?_
      refine W.nilCheck rfl rfl ?_
      refine W.nil ?_
      exact At.step (Ext.refl _) rfl
    refine And.intro ?_ ?_
    · intro L_ w3 hX_ hs_ hf_ hd_
      obtain ⟨v6, e6, r6⟩ := hd_ 6 rfl
      obtain rfl : (.pointer (some ⟨g, 0, none⟩) : Value) = v6 := Eq.symm r6
      refine W.step [(12, _)] (Sub.cons (e6 _ rfl) (Sub.refl _)) ?_
      refine W.fieldB (off := 32) (size := 1) (t := 9) (Fld.of (by kernel_rfl)) rfl rfl rfl ?_
      refine W.nil ?_
      exact At.step (Ext.refl _) rfl
    refine And.intro ?_ ?_
    · intro L_ w3 hX_ hs_ hf_ hd_
      obtain ⟨v7, e7, r7⟩ := hd_ 7 rfl
      obtain rfl : (.pointer (some ⟨g, 32, none⟩) : Value) = v7 := Eq.symm r7
      refine W.step [(13, _)] (Sub.cons (e7 _ rfl) (Sub.refl _)) ?_
      refine W.loadB rfl Try.underlying9 rfl (hB.ext hX_) (stC_name hs name i []) rfl ?_
      refine W.nil ?_
      exact At.step (Ext.refl _) rfl
    refine And.intro ?_ ?_
    · intro L_ w3 hX_ hs_ hf_ hd_
      obtain ⟨v8, e8, r8⟩ := hd_ 8 rfl
      obtain rfl : (strV name : Value) = v8 := Eq.symm r8
      refine W.step [(14, _)] (Sub.cons (e8 _ rfl) (Sub.refl _)) ?_
      refine W.strBytes Try.underlying9 Try.underlying40 Try.underlying5 rfl rfl ?_
      intro g15 c15 w15 hg15 hX15 hS15
      refine W.nil ?_
      exact At.step hX15 ⟨_, _, rfl, hS15⟩
    refine And.intro ?_ ?_
    · intro L_ w3 hX_ hs_ hf_ hd_
      refine W.step [(0, _)] (Sub.cons (hs_ _ _ rfl) (Sub.refl _)) ?_
      refine W.move rfl rfl ?_
      refine W.nil ?_
      exact At.step (Ext.refl _) rfl
    refine And.intro ?_ ?_
    · intro L_ w3 hX_ hs_ hf_ hd_
      obtain ⟨v10, e10, r10⟩ := hd_ 10 rfl
      obtain rfl : (.pointer (some ⟨g, 0, none⟩) : Value) = v10 := Eq.symm r10
      refine W.step [(16, _)] (Sub.cons (e10 _ rfl) (Sub.refl _)) ?_
      refine W.nilCheck rfl rfl ?_
      refine W.nil ?_
      exact At.step (Ext.refl _) rfl
    refine And.intro ?_ ?_
    · intro L_ w3 hX_ hs_ hf_ hd_
      obtain ⟨v11, e11, r11⟩ := hd_ 11 rfl
      obtain rfl : (.pointer (some ⟨g, 0, none⟩) : Value) = v11 := Eq.symm r11
      refine W.step [(17, _)] (Sub.cons (e11 _ rfl) (Sub.refl _)) ?_
      refine W.fieldB (off := 33) (size := 1) (t := 30) (Fld.of (by kernel_rfl)) rfl rfl rfl ?_
      refine W.nil ?_
      exact At.step (Ext.refl _) rfl
    refine And.intro ?_ ?_
    · intro L_ w3 hX_ hs_ hf_ hd_
      obtain ⟨v12, e12, r12⟩ := hd_ 12 rfl
      obtain rfl : (.pointer (some ⟨g, 33, none⟩) : Value) = v12 := Eq.symm r12
      refine W.step [(18, _)] (Sub.cons (e12 _ rfl) (Sub.refl _)) ?_
      refine W.loadB rfl Try.underlying30 rfl (hB.ext hX_) (stC_next hs name i []) rfl ?_
      refine W.nil ?_
      exact At.step (Ext.refl _) rfl
    refine And.intro ?_ ?_
    · intro L_ w3 hX_ hs_ hf_ hd_
      obtain ⟨v13, e13, r13⟩ := hd_ 13 rfl
      obtain rfl : (.int .u64 (i : Int) : Value) = v13 := Eq.symm r13
      refine W.step [(19, _)] (Sub.cons (e13 _ rfl) (Sub.refl _)) ?_
      refine W.quoU (M := 18446744073709551616) (m := i) (n := 4) rfl rfl (by omega) rfl rfl rfl ?_
      refine W.eqv (v' := .int .u64 ((i / 4 : Nat) : Int)) (iV (by unfold quoM; omega)) ?_
      refine W.nil ?_
      exact At.step (Ext.refl _) rfl
    refine And.intro ?_ ?_
    · intro L_ w3 hX_ hs_ hf_ hd_
      obtain ⟨v14, e14, r14⟩ := hd_ 14 rfl
      obtain rfl : (.int .u64 ((i / 4 : Nat) : Int) : Value) = v14 := Eq.symm r14
      refine W.step [(20, _)] (Sub.cons (e14 _ rfl) (Sub.refl _)) ?_
      refine W.call Try.call22 rfl (Words.RPut64_ok none 0 [] (i / 4) _ (Sl.none _ 1) (by decide)) rfl ?_
      rintro v21 w21 ⟨ho21, hX21⟩
      rw [List.nil_append] at ho21
      obtain ⟨a21, c21, rfl, hS21, _⟩ := ownsRow_form ho21
      refine W.nil ?_
      exact At.step hX21 ⟨_, _, rfl, hS21⟩
    refine And.intro ?_ ?_
    · intro L_ w3 hX_ hs_ hf_ hd_
      obtain ⟨v4, e4, r4⟩ := hd_ 4 rfl
      obtain ⟨q4, c4, rfl, hS4⟩ := r4
      obtain ⟨v9, e9, r9⟩ := hd_ 9 rfl
      obtain ⟨q9, c9, rfl, hS9⟩ := r9
      obtain ⟨v15, e15, r15⟩ := hd_ 15 rfl
      obtain ⟨q15, c15, rfl, hS21⟩ := r15
      refine W.step [(10, _), (15, _), (21, _)] (Sub.cons (e4 _ rfl) (Sub.cons (e9 _ rfl) (Sub.cons (e15 _ rfl) (Sub.refl _)))) ?_
      refine W.litV [.slice q4 seed.length c4, .slice q9 name.length c9, .slice q15 (be64 (i / 4)).length c15] EB Try.underlying42 rfl rfl (fun u hu => by simp at hu; rcases hu with rfl | rfl | rfl <;> rfl) rfl rfl rfl ?_
      intro g22 w22 hg22 hX22 ho22 hs22
      have hB22 := bss3 hs22 (hS4.ext hX22) (hS9.ext hX22) (hS21.ext hX22)
      refine W.nil ?_
      exact At.step hX22 ⟨_, rfl, hB22⟩
    refine And.intro ?_ ?_
    · intro L_ w3 hX_ hs_ hf_ hd_
      obtain ⟨v16, e16, r16⟩ := hd_ 16 rfl
      obtain ⟨q16, rfl, hS16⟩ := r16
      refine W.step [(22, _)] (Sub.cons (e16 _ rfl) (Sub.refl _)) ?_
      refine W.call Try.call21 rfl (RSha.RParts_ok _ _ [seed, name, be64 (i / 4)] _ hS16 (by simp) (by rw [parts3_length, be64_length]; omega)) rfl ?_
      rintro v23 w23 ⟨rfl, hX23⟩
      refine W.eqv (v' := keyV S) (by rw [hS]; rfl) ?_
      refine W.nil ?_
      exact At.step hX23 rfl
    refine And.intro ?_ ?_
    · intro L_ w3 hX_ hs_ hf_ hd_
      refine W.step [] (Sub.refl _) ?_
      refine W.alloc (z := .agg (List.replicate 32 (byteV 0)).toArray) (List.replicate 32 (byteV 0)) (by kernel_rfl) rfl rfl ?_
      intro g3 w3a hg3 hX3a hB3
      refine W.nil ?_
      exact At.step hX3a ⟨g3, rfl, by have := hX_.size; omega, hB3⟩
    exact trivial
  · intro L_ w3 hX1 hs_ hv_
    obtain ⟨v18, e18, r18⟩ := hv_ 18 (by decide)
    obtain ⟨g3, rfl, hg3, hB3⟩ := r18
    obtain ⟨v17, e17, r17⟩ := hv_ 17 (by decide)
    obtain rfl : (keyV S : Value) = v17 := Eq.symm r17
    refine W.weaken (l' := [(3, _), (23, _), (0, _)]) (Sub.cons (e18 _ rfl) (Sub.cons (e17 _ rfl) (Sub.cons (hs_ _ _ rfl) (Sub.nil)))) ?_
    refine W.storeA (S.map byteV) rfl rfl hB3 (by rw [List.length_map, hSl]; rfl) (by rw [List.length_map, hSl]; kernel_rfl) (bytes_oneCell _) ?_
    intro w4 hc4 hB4
    have hX4 : Ext w w4 := hX1.news hc4 (fun k hk => Or.inr (by omega))
    refine W.nil ?_
    refine At.thenCode ?_
    refine C.seq ?_
    refine C.regionAny 13 ((fun v w => v = .slice (some ⟨g3, 0, none⟩) 32 32) :: (fun v w => v = .pointer (some ⟨g, 0, none⟩)) :: (fun v w => v = .pointer (some ⟨g, 0, none⟩)) :: (fun v w => v = .pointer (some ⟨g, 33, none⟩)) :: (fun v w => v = .int .u64 (i : Int)) :: (fun v w => v = .int .u64 ((i % 4 : Nat) : Int)) :: (fun v w => v = .int .u64 ((8 * (i % 4) : Nat) : Int)) :: (fun v w => v = .int .i64 ((8 * (i % 4) : Nat) : Int)) :: (fun v w => v = .tuple #[.int .u64 (wordV seed name i : Int), .int .i64 (getE S ((8 * (i % 4) : Nat) : Int) 8)]) :: (fun v w => v = .tuple #[.int .u64 (wordV seed name i : Int), .int .i64 (getE S ((8 * (i % 4) : Nat) : Int) 8)]) :: (fun v w => v = .int .u64 (wordV seed name i : Int)) :: (fun v w => v = .int .i64 (getE S ((8 * (i % 4) : Nat) : Int) 8)) :: (fun v w => v = .int .u64 (wordV seed name i : Int)) :: []) [(0, .pointer (some ⟨g, 0, none⟩)), (3, .pointer (some ⟨g3, 0, none⟩))] [] (Sub.cons (rfl) (Sub.cons (rfl) (Sub.nil))) (Sub.nil) (Sub.cons (rfl) (Sub.cons (rfl) (Sub.nil))) (by kernel_rfl) rfl rfl rfl (And.intro (fun _ _ _ h _ => h) (And.intro (fun _ _ _ h _ => h) (And.intro (fun _ _ _ h _ => h) (And.intro (fun _ _ _ h _ => h) (And.intro (fun _ _ _ h _ => h) (And.intro (fun _ _ _ h _ => h) (And.intro (fun _ _ _ h _ => h) (And.intro (fun _ _ _ h _ => h) (And.intro (fun _ _ _ h _ => h) (And.intro (fun _ _ _ h _ => h) (And.intro (fun _ _ _ h _ => h) (And.intro (fun _ _ _ h _ => h) (And.intro (fun _ _ _ h _ => h) (trivial)))))))))))))) ?_ ?_
    · refine And.intro ?_ ?_
      · intro L_ w5 hX_ hs_ hf_ hd_
        refine W.step [(3, _)] (Sub.cons (hs_ _ _ rfl) (Sub.refl _)) ?_
        refine W.sliceA X8 Try.underlying23 rfl rfl ?_
        refine W.nil ?_
        exact At.step (Ext.refl _) rfl
      refine And.intro ?_ ?_
      · intro L_ w5 hX_ hs_ hf_ hd_
        refine W.step [(0, _)] (Sub.cons (hs_ _ _ rfl) (Sub.refl _)) ?_
        refine W.move rfl rfl ?_
        refine W.nil ?_
        exact At.step (Ext.refl _) rfl
      refine And.intro ?_ ?_
      · intro L_ w5 hX_ hs_ hf_ hd_
        obtain ⟨v1, e1, r1⟩ := hd_ 1 rfl
        obtain rfl : (.pointer (some ⟨g, 0, none⟩) : Value) = v1 := Eq.symm r1
        refine W.step [(26, _)] (Sub.cons (e1 _ rfl) (Sub.refl _)) ?_
        refine W.nilCheck rfl rfl ?_
        refine W.nil ?_
        exact At.step (Ext.refl _) rfl
      refine And.intro ?_ ?_
      · intro L_ w5 hX_ hs_ hf_ hd_
        obtain ⟨v2, e2, r2⟩ := hd_ 2 rfl
        obtain rfl : (.pointer (some ⟨g, 0, none⟩) : Value) = v2 := Eq.symm r2
        refine W.step [(27, _)] (Sub.cons (e2 _ rfl) (Sub.refl _)) ?_
        refine W.fieldB (off := 33) (size := 1) (t := 30) (Fld.of (by kernel_rfl)) rfl rfl rfl ?_
        refine W.nil ?_
        exact At.step (Ext.refl _) rfl
      refine And.intro ?_ ?_
      · intro L_ w5 hX_ hs_ hf_ hd_
        obtain ⟨v3, e3, r3⟩ := hd_ 3 rfl
        obtain rfl : (.pointer (some ⟨g, 33, none⟩) : Value) = v3 := Eq.symm r3
        refine W.step [(28, _)] (Sub.cons (e3 _ rfl) (Sub.refl _)) ?_
        refine W.loadB rfl Try.underlying30 rfl ((hB.ext hX4).ext hX_) (stC_next hs name i []) rfl ?_
        refine W.nil ?_
        exact At.step (Ext.refl _) rfl
      refine And.intro ?_ ?_
      · intro L_ w5 hX_ hs_ hf_ hd_
        obtain ⟨v4, e4, r4⟩ := hd_ 4 rfl
        obtain rfl : (.int .u64 (i : Int) : Value) = v4 := Eq.symm r4
        refine W.step [(29, _)] (Sub.cons (e4 _ rfl) (Sub.refl _)) ?_
        refine W.remU (n := 4) rfl rfl (by omega) rfl ?_
        refine W.nil ?_
        exact At.step (Ext.refl _) rfl
      refine And.intro ?_ ?_
      · intro L_ w5 hX_ hs_ hf_ hd_
        obtain ⟨v5, e5, r5⟩ := hd_ 5 rfl
        obtain rfl : (.int .u64 ((i % 4 : Nat) : Int) : Value) = v5 := Eq.symm r5
        refine W.step [(30, _)] (Sub.cons (e5 _ rfl) (Sub.refl _)) ?_
        refine W.mulU (M := 18446744073709551616) (m := 8) rfl rfl rfl rfl rfl ?_
        refine W.eqv (v' := .int .u64 ((8 * (i % 4) : Nat) : Int)) (iV (by unfold mulM; omega)) ?_
        refine W.nil ?_
        exact At.step (Ext.refl _) rfl
      refine And.intro ?_ ?_
      · intro L_ w5 hX_ hs_ hf_ hd_
        obtain ⟨v6, e6, r6⟩ := hd_ 6 rfl
        obtain rfl : (.int .u64 ((8 * (i % 4) : Nat) : Int) : Value) = v6 := Eq.symm r6
        refine W.step [(31, _)] (Sub.cons (e6 _ rfl) (Sub.refl _)) ?_
        first | refine W.convI rfl Try.underlying30 Try.underlying3 (by omega) rfl ?_ | refine W.conv rfl Try.underlying30 Try.underlying3 rfl ?_
        refine W.nil ?_
        exact At.step (Ext.refl _) rfl
      refine And.intro ?_ ?_
      · intro L_ w5 hX_ hs_ hf_ hd_
        obtain ⟨v0, e0, r0⟩ := hd_ 0 rfl
        obtain rfl : (.slice (some ⟨g3, 0, none⟩) 32 32 : Value) = v0 := Eq.symm r0
        obtain ⟨v7, e7, r7⟩ := hd_ 7 rfl
        obtain rfl : (.int .i64 ((8 * (i % 4) : Nat) : Int) : Value) = v7 := Eq.symm r7
        refine W.step [(25, _), (32, _)] (Sub.cons (e0 _ rfl) (Sub.cons (e7 _ rfl) (Sub.refl _))) ?_
        have hS5 : Bs w5 (some ⟨g3, 0, none⟩) 32 S := St.sub (hB4.ext hX_) (by rw [List.drop_zero, List.take_of_length_le (by rw [List.length_map]; omega)]) hSl
        have hg := Words.RGet64_ok (some ⟨g3, 0, none⟩) 32 S ((8 * (i % 4) : Nat) : Int) w5 hS5 (by omega) (by omega)
        rw [hSl] at hg
        refine W.call Try.call23 rfl hg rfl ?_
        rintro v33 w33 ⟨rfl, rfl⟩
        refine W.eqv (v' := .tuple #[.int .u64 (wordV seed name i : Int), .int .i64 (getE S ((8 * (i % 4) : Nat) : Int) 8)]) (by rw [wordV, ← hS]) ?_
        refine W.nil ?_
        exact At.step (Ext.refl _) rfl
      refine And.intro ?_ ?_
      · intro L_ w5 hX_ hs_ hf_ hd_
        obtain ⟨v8, e8, r8⟩ := hd_ 8 rfl
        obtain rfl : (.tuple #[.int .u64 (wordV seed name i : Int), .int .i64 (getE S ((8 * (i % 4) : Nat) : Int) 8)] : Value) = v8 := Eq.symm r8
        refine W.step [(33, _)] (Sub.cons (e8 _ rfl) (Sub.refl _)) ?_
        refine W.move rfl rfl ?_
        refine W.nil ?_
        exact At.step (Ext.refl _) rfl
      refine And.intro ?_ ?_
      · intro L_ w5 hX_ hs_ hf_ hd_
        obtain ⟨v9, e9, r9⟩ := hd_ 9 rfl
        obtain rfl : (.tuple #[.int .u64 (wordV seed name i : Int), .int .i64 (getE S ((8 * (i % 4) : Nat) : Int) 8)] : Value) = v9 := Eq.symm r9
        refine W.step [(24, _)] (Sub.cons (e9 _ rfl) (Sub.refl _)) ?_
        refine W.extract rfl rfl rfl ?_
        refine W.nil ?_
        exact At.step (Ext.refl _) rfl
      refine And.intro ?_ ?_
      · intro L_ w5 hX_ hs_ hf_ hd_
        obtain ⟨v9, e9, r9⟩ := hd_ 9 rfl
        obtain rfl : (.tuple #[.int .u64 (wordV seed name i : Int), .int .i64 (getE S ((8 * (i % 4) : Nat) : Int) 8)] : Value) = v9 := Eq.symm r9
        refine W.step [(24, _)] (Sub.cons (e9 _ rfl) (Sub.refl _)) ?_
        refine W.extract rfl rfl rfl ?_
        refine W.nil ?_
        exact At.step (Ext.refl _) rfl
      refine And.intro ?_ ?_
      · intro L_ w5 hX_ hs_ hf_ hd_
        obtain ⟨v10, e10, r10⟩ := hd_ 10 rfl
        obtain rfl : (.int .u64 (wordV seed name i : Int) : Value) = v10 := Eq.symm r10
        refine W.step [(34, _)] (Sub.cons (e10 _ rfl) (Sub.refl _)) ?_
        refine W.assign rfl rfl ?_
        refine W.nil ?_
        exact At.step (Ext.refl _) rfl
      exact trivial
    · intro L_ w5 hX2 hs_ hv_
      obtain ⟨v12, e12, r12⟩ := hv_ 12 (by decide)
      obtain rfl : (.int .u64 (wordV seed name i : Int) : Value) = v12 := Eq.symm r12
      obtain ⟨v11, e11, r11⟩ := hv_ 11 (by decide)
      obtain rfl : (.int .i64 (getE S ((8 * (i % 4) : Nat) : Int) 8) : Value) = v11 := Eq.symm r11
      refine W.weaken (l' := [(4, _), (35, _), (0, _), (3, _)]) (Sub.cons (e12 _ rfl) (Sub.cons (e11 _ rfl) (Sub.cons (hs_ _ _ rfl) (Sub.cons (hs_ _ _ rfl) (Sub.nil))))) ?_
      refine W.assign rfl rfl ?_
      refine W.nil ?_
      refine At.thenCode ?_
      refine C.seq ?_
      refine C.region ?_
      refine W.move rfl rfl ?_
      refine W.nilCheck rfl rfl ?_
      refine W.fieldB (off := 33) (size := 1) (t := 30) (Fld.of (by kernel_rfl)) rfl rfl rfl ?_
      refine W.loadB rfl Try.underlying30 rfl ((hB.ext hX4).ext hX2) (stC_next hs name i []) rfl ?_
      refine W.addU (M := 18446744073709551616) (n := 1) rfl rfl rfl rfl rfl ?_
      refine W.eqv (v' := .int .u64 ((i + 1 : Nat) : Int)) (iV (by unfold addM; omega)) ?_
      refine W.nilCheck rfl rfl ?_
      refine W.fieldB (off := 33) (size := 1) (t := 30) (Fld.of (by kernel_rfl)) rfl rfl rfl ?_
      refine W.store1 rfl rfl rfl ((hB.ext hX4).ext hX2) (by rw [stC_length]; omega) (by kernel_rfl) ?_
      intro w6 hc6 hB6
      rw [stC_set hs name i (i + 1) []] at hB6
      have hC6 : Chg (fun k => k = g) w w6 := ((hX4.ext hX2).mono fun _ x => x.elim).trans hc6
      refine W.nil ?_
      refine At.thenCode ?_
      refine C.seq ?_
      refine C.region ?_
      refine W.move rfl rfl ?_
      refine W.assign rfl rfl ?_
      refine W.nil ?_
      refine At.thenCode ?_
      refine C.ret ?_
      refine At.ret1 Try.results17 rfl ?_
      exact ⟨rfl, hB6, hC6⟩
end Go.Proofs.Ytomfnficblnngaa.Beacon
