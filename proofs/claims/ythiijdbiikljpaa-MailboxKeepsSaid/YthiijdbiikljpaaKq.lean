/- Rows that grow inside a region that draws its order: a relation between worlds under which each row keeps the beginning of one list. -/
import Derived.Test.YthiijdbiikljpaaKx
import Derived.Test.YthiijdbiikljpaaKr
namespace Go.Proofs.Ythiijdbiikljpaa.KW
open Go Go.RowKit
set_option linter.unusedVariables false
set_option linter.unusedSimpArgs false

/-- What an append has done: it wrote into the row's own block behind what it held, or left all that was there. -/
def Grew (e sz : Nat) (v v' : Value) (n m : Nat) (news : List Value) (w w' : World) : Prop :=
  (∃ g cap cur, v = .slice (some ⟨g, 0, none⟩) n cap ∧ w.heap[g]? = some (.cells cur e (0, 0)) ∧ n + m ≤ cap ∧ cur.size = cap * sz ∧ v' = .slice (some ⟨g, 0, none⟩) (n + m) cap ∧ w' = w.setRow g (cur.toList.take (n * sz) ++ news ++ cur.toList.drop (n * sz + news.length)).toArray) ∨
  (Ext w w' ∧ (v' = v ∨ ∃ k, v'.ownBlock = some k ∧ w.heap.size ≤ k))

/-- Old blocks are kept but for those of S, new ones but for great rows of kind e; and each row that holds the beginning of P holds it on. -/
structure GP (n0 e sz mn : Nat) (S : Nat → Prop) (P : List Value) (a b : World) : Prop where
  os : b.os = a.os
  tape : b.tape = a.tape
  output : b.output = a.output
  size : a.heap.size ≤ b.heap.size
  block : ∀ k, k < a.heap.size → ¬ S k → (n0 ≤ k → ∀ cs f, a.heap[k]? = some (.cells cs e f) → cs.size < mn) → b.heap[k]? = a.heap[k]?
  rows : ∀ base v n zs, zs <+: P → a.ownsRow base e sz v n zs → b.ownsRow base e sz v n zs
theorem GP.ext {n0 e sz mn : Nat} {S : Nat → Prop} {P : List Value} (a b : World) (h : Ext a b) : GP n0 e sz mn S P a b :=
  ⟨h.os, h.tape, h.output, h.size, fun k hk _ _ => h.block k hk fun c => c, fun base v n zs _ ho => ownsRow_ext ho h⟩
theorem GP.trans {n0 e sz mn : Nat} {S : Nat → Prop} {P : List Value} (a b c : World) (h : GP n0 e sz mn S P a b) (g : GP n0 e sz mn S P b c) : GP n0 e sz mn S P a c :=
  ⟨g.os.trans h.os, g.tape.trans h.tape, g.output.trans h.output, Nat.le_trans h.size g.size, fun k hk hs hn => by
    have h1 := h.block k hk hs hn
    exact (g.block k (Nat.lt_of_lt_of_le hk h.size) hs (fun h0 cs f hc => hn h0 cs f (by rw [← h1]; exact hc))).trans h1,
    fun base v n zs hp ho => g.rows base v n zs hp (h.rows base v n zs hp ho)⟩
/-- From the region's begin on: only the blocks of S have changed. -/
theorem GP.chg {n0 e sz mn : Nat} {S : Nat → Prop} {P : List Value} {a b : World} (h : GP n0 e sz mn S P a b) (h0 : a.heap.size ≤ n0) : Chg S a b :=
  ⟨h.os, h.tape, h.output, h.size, fun k hk hs => h.block k hk hs fun c => by omega⟩
theorem GP.bk {n0 e sz mn : Nat} {S : Nat → Prop} {P : List Value} {a b : World} (h : GP n0 e sz mn S P a b) {g t : Nat} {cs : List Value} (hb : a.heap[g]? = some (.cells cs.toArray t (0, 0))) (ht : ¬ t = e) (hs : ¬ S g) : b.heap[g]? = some (.cells cs.toArray t (0, 0)) :=
  (h.block g (Array.getElem?_eq_some_iff.1 hb).1 hs fun _ cs f hc => by
    rw [hb] at hc
    injection hc with hc
    injection hc with h1 h2
    exact absurd h2 ht).trans hb
theorem GP.bkOld {n0 e sz mn : Nat} {S : Nat → Prop} {P : List Value} {a b : World} (h : GP n0 e sz mn S P a b) {g : Nat} {cs : List Value} (hb : Bk a g cs) (h0 : g < n0) (hs : ¬ S g) : Bk b g cs := by
  have hl := hb.lt
  obtain ⟨t, hb⟩ := hb
  exact ⟨t, (h.block g hl hs fun c => by omega).trans hb⟩
theorem GP.lit {n0 e sz mn : Nat} {S : Nat → Prop} {P : List Value} {a b : World} (h : GP n0 e sz mn S P a b) {base g n : Nat} {cs : List Value} (ho : a.ownsRow base e sz (.slice (some ⟨g, 0, none⟩) n n) n cs) (hn : n * sz < mn) (hs : ¬ S g) : b.ownsRow base e sz (.slice (some ⟨g, 0, none⟩) n n) n cs := by
  refine ⟨ho.1, ?_⟩
  rcases ho.2 with ⟨h1, _⟩ | ⟨g', cap, cur, hv, hb, hg, hnc, hcm, hcs, htake⟩
  · cases h1
  · injection hv with h1 h2 h3
    injection h1 with h1
    injection h1 with h1
    subst h1; subst h3
    refine .inr ⟨g, n, cur, rfl, hb, ?_, hnc, hcm, hcs, htake⟩
    refine (h.block g (Array.getElem?_eq_some_iff.1 hg).1 hs fun _ cs f hc => ?_).trans hg
    rw [hg] at hc
    injection hc with hc
    injection hc with h1 h2
    rw [← h1, hcs]
    exact hn
theorem GP.slOld {n0 e sz mn : Nat} {S : Nat → Prop} {P : List Value} {a b : World} (h : GP n0 e sz mn S P a b) {ao : Option Addr} {n c s : Nat} {cs : List Value} (hs : Sl a ao n c s cs) (hn : ∀ ad, ao = some ad → cs ≠ [] → ad.block < n0 ∧ ¬ S ad.block) : Sl b ao n c s cs := by
  refine ⟨hs.le, hs.len, hs.nil, fun ad e => ?_⟩
  by_cases hc : cs = []
  · subst hc; intro j u hu; simp at hu
  · obtain ⟨h1, h2⟩ := hn ad e hc
    intro j u hu
    have h3 := hs.at_ ad e j u hu
    have h4 := cell_lt h3
    rw [add_block] at h4
    exact (World.cell?_of_block (by rw [add_block]; exact h.block ad.block h4 h2 fun c => by omega)).trans h3

theorem GP.grew {n0 e sz mn base n m : Nat} {S : Nat → Prop} {P cs news : List Value} {v v' : Value} {w w' : World} (hg : Grew e sz v v' n m news w w') (ho : w.ownsRow base e sz v n cs) (hP : cs ++ news <+: P) (hl : news.length = m * sz) (hS : ∀ k, v.ownBlock = some k → S k ∨ (n0 ≤ k ∧ mn ≤ (n + m) * sz)) : GP n0 e sz mn S P w w' := by
  rcases hg with ⟨g, cap, cur, rfl, hg, hroom, hcs, rfl, rfl⟩ | ⟨hX, _⟩
  · refine ⟨rfl, rfl, rfl, by simp [World.setRow], ?_, ?_⟩
    · intro k hk hs hn
      refine setRow_other w g k _ fun e => ?_
      subst e
      rcases hS k rfl with h | ⟨h1, h2⟩
      · exact hs h
      · have h3 := hn h1 _ _ hg
        have h4 : (n + m) * sz ≤ cap * sz := Nat.mul_le_mul_right _ hroom
        omega
    · intro base2 v2 n2 zs hz h2
      refine ⟨h2.1, ?_⟩
      rcases h2.2 with ⟨rfl, h0⟩ | ⟨g2, cap2, cur2, rfl, hb2, hg2, hnc2, hcm2, hcs2, htake2⟩
      · exact .inl ⟨rfl, h0⟩
      · by_cases hgg : g2 = g
        · subst hgg
          rw [hg] at hg2
          injection hg2 with hg2
          injection hg2 with hg2
          subst hg2
          have htake : cur.toList.take (n * sz) = cs := by
            rcases ho.2 with ⟨h1, _⟩ | ⟨g3, cap3, cur3, hv3, _, hg3, _, _, _, ht3⟩
            · cases h1
            · injection hv3 with h1 h2 h3
              injection h1 with h1
              injection h1 with h1
              subst h1
              rw [hg] at hg3
              injection hg3 with hg3
              injection hg3 with hg3
              subst hg3
              exact ht3
          have hfit : n * sz + m * sz ≤ cur.size := by rw [hcs, ← Nat.add_mul]; exact Nat.mul_le_mul_right _ hroom
          refine .inr ⟨g2, cap2, _, rfl, hb2, setRow_heap w g2 cur _ e _ hg, hnc2, hcm2, ?_, ?_⟩
          · rw [← hcs2]
            simp only [List.size_toArray, List.length_append, List.length_take, List.length_drop, Array.length_toList]
            omega
          · apply List.ext_getElem?
            intro i
            have hzi : ∀ i, i < n2 * sz → zs[i]? = cur.toList[i]? := fun i hi => by rw [← htake2, List.getElem?_take, if_pos hi]
            have hzl : zs.length = n2 * sz := h2.1
            have hcl : cs.length = n * sz := ho.1
            rw [List.getElem?_take]
            by_cases hi : i < n2 * sz
            · rw [if_pos hi]
              have hzP : zs[i]? = P[i]? := by
                obtain ⟨r, rfl⟩ := hz
                rw [List.getElem?_append_left (by omega)]
              by_cases h3 : i < n * sz
              · rw [List.append_assoc, List.getElem?_append_left (by simp; omega), List.getElem?_take, if_pos h3, hzi i hi]
              · by_cases h4 : i < n * sz + m * sz
                · rw [List.getElem?_append_left (by simp; omega), htake, hzP]
                  obtain ⟨r, rfl⟩ := hP
                  rw [List.getElem?_append_left (l₂ := r) (by rw [List.length_append]; omega)]
                · rw [List.getElem?_append_right (by simp; omega), hzi i hi, List.getElem?_drop]
                  congr 1
                  simp only [List.length_append, List.length_take, Array.length_toList]
                  omega
            · rw [if_neg hi]
              exact (List.getElem?_eq_none (by omega)).symm
        · exact .inr ⟨g2, cap2, cur2, rfl, hb2, (setRow_other w g g2 _ hgg).trans hg2, hnc2, hcm2, hcs2, htake2⟩
  · exact GP.ext _ _ hX

theorem Grew.chg {e sz n m : Nat} {v v' : Value} {news : List Value} {w w' : World} (h : Grew e sz v v' n m news w w') : Chg (fun k => some k = v.ownBlock) w w' := by
  rcases h with ⟨g, cap, cur, rfl, hg, hroom, hcs, rfl, rfl⟩ | ⟨hX, _⟩
  · exact ⟨rfl, rfl, rfl, by simp [World.setRow], fun k _ hk => setRow_other w g k _ fun e => hk (by subst e; rfl)⟩
  · exact hX.mono fun k c => c.elim

theorem Grew.own {e sz n m : Nat} {v v' : Value} {news : List Value} {w w' : World} (h : Grew e sz v v' n m news w w') : ∀ k, v'.ownBlock = some k → v.ownBlock = some k ∨ w.heap.size ≤ k := by
  intro k hk
  rcases h with ⟨g, cap, cur, rfl, hg, hroom, hcs, rfl, rfl⟩ | ⟨hX, h⟩
  · exact .inl hk
  · rcases h with rfl | ⟨k', h1, h2⟩
    · exact .inl hk
    · rw [h1] at hk; obtain rfl := Option.some.inj hk; exact .inr h2
theorem append_grew {P : Program} (w : World) {e sz bytes base n m c : Nat} {t ty : TypeId} {z v : Value} {ad : Addr} {cs news : List Value} (hE : Elem P e sz bytes z) (hT : P.underlying t = some (.slice e))
    (hown : w.ownsRow base e sz v n cs) (hl : news.length = m * sz) (hc : Cells w ad news) (h1 : ∀ u ∈ news, u.oneCell' = true) (hlen : (n + m) * bytes ≤ 140737488355328) (hlen2 : n + m ≤ 140737488355328) (hbase : base ≤ w.heap.size) :
    ∃ v' w', (Builtin.append_ #[t, t] ty #[v, .slice (some ad) m c]).run P w = .ok v' w' ∧ w'.ownsRow base e sz v' (n + m) (cs ++ news) ∧ Grew e sz v v' n m news w w' := by
  obtain ⟨v', w', hr, h2, h3, h4⟩ := append_own (P := P) w (ty := ty) (c := c) hE hT hown hl hc h1 hlen hlen2 hbase
  refine ⟨v', w', hr, h2, ?_⟩
  obtain ⟨i, hi, hz, hsz, hby⟩ := hE.out
  rcases hown.2 with ⟨rfl, rfl⟩ | ⟨g, cap, cur, rfl, hbg, hg, hnc, hcm, hcs, htake⟩
  · refine .inr ⟨(Chg.of_grown h3).mono (fun k hk => by cases hk), ?_⟩
    rcases h4 with h4 | h4
    · left
      rcases h2.2 with ⟨rfl, _⟩ | ⟨g', cap', cur', rfl, _⟩
      · rfl
      · cases h4
    · exact .inr h4
  · by_cases hroom : n + m ≤ cap
    · subst hsz
      have hfit : n * i.size + news.length ≤ cur.size := by rw [hl, hcs, ← Nat.add_mul]; exact Nat.mul_le_mul_right _ hroom
      have hr2 := run_append_room (P := P) w t ty e i hT hi g n cap cur hg ad m c news hl hc h1 hroom hfit
      rw [hr] at hr2
      obtain ⟨rfl, rfl⟩ := Result.ok.inj hr2
      exact .inl ⟨g, cap, cur, rfl, hg, hroom, hcs, rfl, rfl⟩
    · have hX : Ext w w' := by
        subst hsz; subst hby
        have holds : ∀ j u, cs[j]? = some u → w.cell? ((⟨g, 0, none⟩ : Addr).add j) = some u := hown.cells (g := g) rfl
        have hr2 := run_append_grow (P := P) w t ty e i z hT hi hz ⟨g, 0, none⟩ n cap cs hown.1 holds ad m c news hl hc (by omega) (by omega) (growslice_fits (by omega) hlen)
        rw [hr] at hr2
        obtain ⟨rfl, rfl⟩ := Result.ok.inj hr2
        exact (Ext.drew w).ext (Ext.alloc w.drew _)
      refine .inr ⟨hX, ?_⟩
      rcases h4 with h4 | h4
      · exfalso
        subst hsz; subst hby
        have holds : ∀ j u, cs[j]? = some u → w.cell? ((⟨g, 0, none⟩ : Addr).add j) = some u := hown.cells (g := g) rfl
        have hr2 := run_append_grow (P := P) w t ty e i z hT hi hz ⟨g, 0, none⟩ n cap cs hown.1 holds ad m c news hl hc (by omega) (by omega) (growslice_fits (by omega) hlen)
        rw [hr] at hr2
        obtain ⟨rfl, rfl⟩ := Result.ok.inj hr2
        have h5 : w.heap.size = g := Option.some.inj h4
        have := (Array.getElem?_eq_some_iff.1 hg).1
        omega
      · exact .inr h4
theorem append_grew_str {P : Program} (w : World) {e base n : Nat} {t u ty : TypeId} {v : Value} {cs : List Value} (hE : Elem P e 1 1 (.int .u8 0)) (hT : P.underlying t = some (.slice e)) (hU : P.underlying u = some .string)
    (hown : w.ownsRow base e 1 v n cs) (s : ByteArray) (hlen : n + s.size ≤ 140737488355328) (hbase : base ≤ w.heap.size) :
    ∃ v' w', (Builtin.append_ #[t, u] ty #[v, .string s]).run P w = .ok v' w' ∧ w'.ownsRow base e 1 v' (n + s.size) (cs ++ Lib.strCells s) ∧ Grew e 1 v v' n s.size (Lib.strCells s) w w' := by
  obtain ⟨i, hi, hz, hsz, hby⟩ := hE.out
  obtain ⟨v', w', hr, h2, h3, h4⟩ := Lib.run_append_own_string (P := P) (w := w) base t u ty e i hT hU hi hz hsz hby v n cs hown s (by unfold maxLen; omega) hlen hbase
  refine ⟨v', w', hr, h2, ?_⟩
  rcases hown.2 with ⟨rfl, rfl⟩ | ⟨g, cap, cur, rfl, hbg, hg, hnc, hcm, hcs, htake⟩
  · refine .inr ⟨(Chg.of_grown h3).mono (fun k hk => by cases hk), ?_⟩
    by_cases hm : s.size = 0
    · exact .inl (h4.2 ⟨rfl, hm⟩)
    · obtain ⟨v2, w2, hr2, g2, _, _⟩ := Lib.run_append_own_string (P := P) (w := w) w.heap.size t u ty e i hT hU hi hz hsz hby _ 0 [] (World.ownsRow_nil w w.heap.size e 1) s (by unfold maxLen; omega) hlen (Nat.le_refl _)
      rw [hr] at hr2
      obtain ⟨rfl, rfl⟩ := Result.ok.inj hr2
      rcases g2.2 with ⟨_, h0⟩ | ⟨g, cap, cur, rfl, hb, _⟩
      · omega
      · exact .inr ⟨g, rfl, hb⟩
  · by_cases hroom : n + s.size ≤ cap
    · have hcs' : cur.size = cap := by simpa using hcs
      have hr2 := Lib.run_append_room_string (P := P) w t u ty e i hT hU hi hsz g n cap cur hg s hroom (by omega)
      rw [hr] at hr2
      obtain ⟨rfl, rfl⟩ := Result.ok.inj hr2
      refine .inl ⟨g, cap, cur, rfl, hg, hroom, hcs, rfl, ?_⟩
      rw [Nat.mul_one, Lib.strCells_length]
    · have holds : ∀ j u, cs[j]? = some u → w.cell? ((⟨g, 0, none⟩ : Addr).add j) = some u := hown.cells (g := g) rfl
      have hxl : cs.length = n := by simpa using hown.1
      have hr2 := Lib.run_append_grow_string (P := P) w t u ty e i (.int .u8 0) hT hU hi hz ⟨g, 0, none⟩ n cap cs (by rw [hsz]; simpa using hxl) holds s (by omega) (by omega) (by rw [hby]; exact growslice_fits (by omega) (by omega))
      rw [hr] at hr2
      obtain ⟨rfl, rfl⟩ := Result.ok.inj hr2
      exact .inr ⟨(Ext.drew w).ext (Ext.alloc w.drew _), .inr ⟨_, rfl, Nat.le_refl _⟩⟩
section
variable {P : Program} {N : Nat} {Q : Exit → Act → World → Prop} {l : Env} {w : World} {ops : Array Oper} {rest : List Oper} {d : Tmp} {ty : TypeId} {pos : String} {aft : Array Edge}
variable {x y : Operand} {T T' : TypeId}
theorem W.appendG {e sz bytes base n m c : Nat} {z v : Value} {ao : Option Addr} {cs news : List Value} (hE : Elem P e sz bytes z) (hT : P.underlying T = some (.slice e))
    (hx : ev l x = some v) (hy : ev l y = some (.slice ao m c)) (hown : w.ownsRow base e sz v n cs) (hs : Sl w ao m c sz news) (h1 : ∀ u ∈ news, u.oneCell' = true) (hlen : (n + m) * bytes ≤ 140737488355328) (hlen2 : n + m ≤ 140737488355328) (hbase : base ≤ w.heap.size) (hN : Nat.blt d N = true)
    (next : ∀ v' w', w'.ownsRow base e sz v' (n + m) (cs ++ news) → Grew e sz v v' n m news w w' → W P N ops Q rest ((d, v') :: l) w') :
    W P N ops Q (⟨some d, .call ⟨.builtin .append, #[x, y], #[T, T]⟩, ty, pos, aft, none⟩ :: rest) l w := by
  obtain ⟨i, hi, hz, hsz, hby⟩ := hE.out
  cases ao with
  | none =>
    have hc0 := hs.nil rfl
    have hm0 : m = 0 := by have := hs.le; omega
    subst hc0; subst hm0
    have hnews : news = [] := List.eq_nil_of_length_eq_zero (by simpa using hs.len)
    subst hnews
    have hrun := run_append_owned_none (P := P) w base T ty e i sz hT hi v n cs hown
    refine W.op (v := v) (w' := w) rfl rfl hN (fun a ha => ?_) (next v w (by simpa using hown) (.inr ⟨Ext.refl _, .inl rfl⟩))
    simp only [execOp, resolve, invoke, builtin, Sem.run_bind, Sem.run_pure, Result.andThen_ok, List.map_toArray, List.map_cons, List.map_nil, ha.ev hx, ha.ev hy, hrun]
  | some ad =>
    have hc := hs.at_ ad rfl
    obtain ⟨v', w', hrun, h2, h3⟩ := append_grew (P := P) w (ty := ty) (c := c) hE hT hown hs.len hc h1 hlen hlen2 hbase
    refine W.op (v := v') (w' := w') rfl rfl hN (fun a ha => ?_) (next v' w' h2 h3)
    simp only [execOp, resolve, invoke, builtin, Sem.run_bind, Sem.run_pure, Result.andThen_ok, List.map_toArray, List.map_cons, List.map_nil, ha.ev hx, ha.ev hy, hrun]
/-- of bytes. -/
theorem W.appendGB {e base c : Nat} {z v : Value} {ao : Option Addr} {xs ys : List UInt8} (hE : Elem P e 1 1 z) (hT : P.underlying T = some (.slice e))
    (hx : ev l x = some v) (hy : ev l y = some (.slice ao ys.length c)) (ho : Ow w base e v xs) (hs : Bs w ao c ys) (hlen : xs.length + ys.length ≤ 70368744177664) (hbase : base ≤ w.heap.size) (hN : Nat.blt d N = true)
    (next : ∀ v' w', Ow w' base e v' (xs ++ ys) → Grew e 1 v v' xs.length ys.length (ys.map byteV) w w' → W P N ops Q rest ((d, v') :: l) w') :
    W P N ops Q (⟨some d, .call ⟨.builtin .append, #[x, y], #[T, T]⟩, ty, pos, aft, none⟩ :: rest) l w :=
  W.appendG hE hT hx hy ho hs (bytes_oneCell ys) (by omega) (by omega) hbase hN fun v' w' h1 h2 => next v' w' (by
    show w'.ownsRow base e 1 v' (xs ++ ys).length ((xs ++ ys).map byteV)
    rw [List.length_append, List.map_append]; exact h1) h2
theorem W.appendGStr {e base : Nat} {v : Value} {xs ys : List UInt8} (hE : Elem P e 1 1 (.int .u8 0)) (hT : P.underlying T = some (.slice e)) (hT' : P.underlying T' = some .string)
    (hx : ev l x = some v) (hy : ev l y = some (strV ys)) (ho : Ow w base e v xs) (hlen : xs.length + ys.length ≤ 70368744177664) (hbase : base ≤ w.heap.size) (hN : Nat.blt d N = true)
    (next : ∀ v' w', Ow w' base e v' (xs ++ ys) → Grew e 1 v v' xs.length ys.length (ys.map byteV) w w' → W P N ops Q rest ((d, v') :: l) w') :
    W P N ops Q (⟨some d, .call ⟨.builtin .append, #[x, y], #[T, T']⟩, ty, pos, aft, none⟩ :: rest) l w := by
  have hs : (⟨ys.toArray⟩ : ByteArray).size = ys.length := by simp [ByteArray.size]
  obtain ⟨v', w', hrun, h1, h2⟩ := append_grew_str (P := P) w (ty := ty) hE hT hT' ho ⟨ys.toArray⟩ (by rw [hs]; omega) hbase
  have hc : Lib.strCells ⟨ys.toArray⟩ = ys.map byteV := rfl
  rw [hs, hc] at h2
  rw [hs, hc, ← List.map_append] at h1
  refine W.op (v := v') (w' := w') rfl rfl hN (fun a ha => ?_) (next v' w' (by show World.ownsRow _ _ _ _ _ _ _; rw [List.length_append]; exact h1) h2)
  simp only [execOp, resolve, invoke, builtin, Sem.run_bind, Sem.run_pure, Result.andThen_ok, List.map_toArray, List.map_cons, List.map_nil, ha.ev hx, ha.ev hy, strV, hrun]
theorem GP.grewB {n0 e mn base : Nat} {S : Nat → Prop} {P xs ys : List UInt8} {v v' : Value} {w w' : World} (hg : Grew e 1 v v' xs.length ys.length (ys.map byteV) w w') (ho : Ow w base e v xs) (hP : xs ++ ys <+: P) (hS : ∀ k, v.ownBlock = some k → S k ∨ (n0 ≤ k ∧ mn ≤ xs.length + ys.length)) : GP n0 e 1 mn S (P.map byteV) w w' :=
  GP.grew hg ho (by rw [← List.map_append]; exact hP.map _) (by simp) (fun k hk => (hS k hk).imp id fun h => ⟨h.1, by omega⟩)
theorem GP.rowB {n0 e mn base : Nat} {S : Nat → Prop} {P xs : List UInt8} {v : Value} {a b : World} (h : GP n0 e 1 mn S (P.map byteV) a b) (ho : Ow a base e v xs) (hP : xs <+: P) : Ow b base e v xs :=
  h.rows base v xs.length _ (hP.map _) ho
/-- A new variable, its kind told. -/
theorem W.allocT {t : TypeId} {z : Value} (cs : List Value) (hz : (P.info? t).map (·.zero) = some (some z)) (hc : z.cells = cs.toArray) (hN : Nat.blt d N = true)
    (next : ∀ g w', g = w.heap.size → Ext w w' → w'.heap[g]? = some (.cells cs.toArray t (0, 0)) → W P N ops Q rest ((d, .pointer (some ⟨g, 0, none⟩)) :: l) w') : W P N ops Q (⟨some d, .alloc t, ty, pos, aft, none⟩ :: rest) l w := by
  refine W.op (v := .pointer (some ⟨w.heap.size, 0, none⟩)) (w' := w.alloc (.cells cs.toArray t)) rfl rfl hN (fun a ha => ?_) (next _ _ rfl (Ext.alloc _ _) (heap_alloc_last w _))
  cases hq : P.info? t with
  | none => simp [hq] at hz
  | some i =>
    have hs : i.zero = some z := by simpa [hq] using hz
    simp only [execOp, Instr.alloc, zeroValue, typeInfo, newVar, newRow]
    simp [hq, hs, hc]
end
end Go.Proofs.Ythiijdbiikljpaa.KW
