/- Maps in memory: what a block that is a map holds, its entries in their order; and the walk's lemmas on them. -/
import Derived.Test.YthiijdbiikljpaaKl
import Derived.Test.YthiijdbiikljpaaKe
import Derived.DeepKeys4
import Derived.Maps.RangeRun
namespace Go.Proofs.Ythiijdbiikljpaa.KW
open Go Go.RowKit
open Go.ChangeMaps (setBlock)
open Go.WideMaps (KeyLaw)
set_option linter.unusedVariables false
set_option linter.unusedSimpArgs false

/-- Block b is a map: its entries, each born at a stamp of its own below the clock; keys that are keys, no two alike. -/
structure Mp (P : Program) (kt : TypeId) (w : World) (b : Nat) (es : List MapEntry) (clock : Nat) : Prop where
  heap : w.heap[b]? = some (.map es.toArray clock)
  born : ∀ e ∈ es, e.born < clock
  nodup : (es.map (·.born)).Nodup
  key : ∀ e ∈ es, ∃ l, keyOf P kt e.key = some l
  apart : es.Pairwise (fun e e' => e.key ≠ e'.key)
section
variable {P : Program} {kt : TypeId} {w w' : World} {b : Nat} {es : List MapEntry} {clock : Nat}
theorem Mp.lt (h : Mp P kt w b es clock) : b < w.heap.size := (Array.getElem?_eq_some_iff.1 h.heap).1
theorem Mp.chg {S : Nat → Prop} (h : Mp P kt w b es clock) (c : Chg S w w') (hn : ¬ S b) : Mp P kt w' b es clock := ⟨(c.block b h.lt hn).trans h.heap, h.born, h.nodup, h.key, h.apart⟩
theorem Mp.ext (h : Mp P kt w b es clock) (c : Ext w w') : Mp P kt w' b es clock := h.chg c fun x => x
theorem Mp.uniq (h : Mp P kt w b es clock) {i j : Nat} {e e' : MapEntry} (hi : es[i]? = some e) (hj : es[j]? = some e') (hk : e.key = e'.key) : i = j := by
  obtain ⟨h1, rfl⟩ := List.getElem?_eq_some_iff.1 hi
  obtain ⟨h2, rfl⟩ := List.getElem?_eq_some_iff.1 hj
  rcases Nat.lt_trichotomy i j with h3 | h3 | h3
  · exact absurd hk (List.pairwise_iff_getElem.1 h.apart i j h1 h2 h3)
  · exact h3
  · exact absurd hk.symm (List.pairwise_iff_getElem.1 h.apart j i h2 h1 h3)
theorem Mp.uniqB (h : Mp P kt w b es clock) {i j : Nat} {e e' : MapEntry} (hi : es[i]? = some e) (hj : es[j]? = some e') (hk : e.born = e'.born) : i = j := by
  obtain ⟨h1, rfl⟩ := List.getElem?_eq_some_iff.1 hi
  obtain ⟨h2, rfl⟩ := List.getElem?_eq_some_iff.1 hj
  have := h.nodup
  rw [List.nodup_iff_pairwise_ne] at this
  have hp := List.pairwise_iff_getElem.1 this
  rcases Nat.lt_trichotomy i j with h3 | h3 | h3
  · have := hp i j (by simpa using h1) (by simpa using h2) h3
    simp only [List.getElem_map] at this
    exact absurd hk this
  · exact h3
  · have := hp j i (by simpa using h2) (by simpa using h1) h3
    simp only [List.getElem_map] at this
    exact absurd hk.symm this
theorem Chg.setBlock (w : World) (b : Nat) (o : Obj) : Chg (fun k => k = b) w (setBlock w b o) :=
  ⟨rfl, rfl, rfl, by simp [ChangeMaps.setBlock], fun k _ hk => by
    simp only [ChangeMaps.setBlock, Array.getElem?_setIfInBounds]
    rw [if_neg fun e => hk e.symm]⟩
theorem setBlock_heap {o : Obj} (hb : b < w.heap.size) : (setBlock w b o).heap[b]? = some o := by
  simp only [ChangeMaps.setBlock, Array.getElem?_setIfInBounds]
  simp [hb]
theorem Mp.made (w : World) : Mp P kt (w.alloc (.map #[] 0)) w.heap.size [] 0 := ⟨heap_alloc_last w _, by simp, by simp, by simp, by simp⟩
theorem Mp.put {j : Nat} {e : MapEntry} (h : Mp P kt w b es clock) (he : es[j]? = some e) (v : Value) : Mp P kt (setBlock w b (.map (es.set j ⟨e.key, v, e.born⟩).toArray clock)) b (es.set j ⟨e.key, v, e.born⟩) clock := by
  obtain ⟨hj, rfl⟩ := List.getElem?_eq_some_iff.1 he
  have hb : (es.set j ⟨es[j].key, v, es[j].born⟩).map (·.born) = es.map (·.born) := by
    apply List.ext_getElem (by simp)
    intro i h1 h2
    rw [List.getElem_map, List.getElem_map, List.getElem_set]
    split
    · rename_i h3; subst h3; rfl
    · rfl
  have hm : ∀ x ∈ es.set j ⟨es[j].key, v, es[j].born⟩, ∃ y ∈ es, x.key = y.key ∧ x.born = y.born := by
    intro x hx
    rcases List.mem_or_eq_of_mem_set hx with hx | rfl
    · exact ⟨x, hx, rfl, rfl⟩
    · exact ⟨es[j], List.getElem_mem hj, rfl, rfl⟩
  refine ⟨setBlock_heap h.lt, fun x hx => ?_, by rw [hb]; exact h.nodup, fun x hx => ?_, ?_⟩
  · obtain ⟨y, hy, _, h2⟩ := hm x hx; rw [h2]; exact h.born y hy
  · obtain ⟨y, hy, h1, _⟩ := hm x hx; rw [h1]; exact h.key y hy
  · refine List.pairwise_iff_getElem.2 fun i k hi hk hik => ?_
    have hi' : i < es.length := by simpa using hi
    have hk' : k < es.length := by simpa using hk
    have e1 : ∀ (m : Nat) (hm : m < es.length), ((es.set j ⟨es[j].key, v, es[j].born⟩)[m]'(by simpa using hm)).key = es[m].key := by
      intro m hm
      rw [List.getElem_set]
      split
      · rename_i h1; subst h1; rfl
      · rfl
    rw [e1 i hi', e1 k hk']
    exact List.pairwise_iff_getElem.1 h.apart i k hi' hk' hik
theorem Mp.push {k v : Value} {l : Lit} (h : Mp P kt w b es clock) (hk : keyOf P kt k = some l) (hn : ∀ e ∈ es, e.key ≠ k) : Mp P kt (setBlock w b (.map (es ++ [(⟨k, v, clock⟩ : MapEntry)]).toArray (clock + 1))) b (es ++ [(⟨k, v, clock⟩ : MapEntry)]) (clock + 1) := by
  refine ⟨setBlock_heap h.lt, fun x hx => ?_, ?_, fun x hx => ?_, ?_⟩
  · rcases List.mem_append.1 hx with hx | hx
    · have := h.born x hx; omega
    · obtain rfl := List.mem_singleton.1 hx; show clock < clock + 1; omega
  · rw [List.map_append, List.nodup_append]
    refine ⟨h.nodup, by simp, ?_⟩
    intro a ha c hc
    obtain ⟨x, hx, rfl⟩ := List.mem_map.1 ha
    have := h.born x hx
    simp at hc
    omega
  · rcases List.mem_append.1 hx with hx | hx
    · exact h.key x hx
    · obtain rfl := List.mem_singleton.1 hx; exact ⟨l, hk⟩
  · rw [List.pairwise_append]
    refine ⟨h.apart, by simp, ?_⟩
    intro x hx y hy
    obtain rfl := List.mem_singleton.1 hy
    exact hn x hx
theorem Mp.drop (h : Mp P kt w b es clock) (j : Nat) : Mp P kt (setBlock w b (.map (es.eraseIdx j).toArray clock)) b (es.eraseIdx j) clock := by
  have hs : (es.eraseIdx j).Sublist es := List.eraseIdx_sublist es j
  exact ⟨setBlock_heap h.lt, fun x hx => h.born x (hs.subset hx), List.Nodup.sublist (hs.map _) h.nodup, fun x hx => h.key x (hs.subset hx), h.apart.sublist hs⟩
theorem Mp.same (h : Mp P kt w b es clock) : Mp P kt (setBlock w b (.map es.toArray clock)) b es clock := ⟨setBlock_heap h.lt, h.born, h.nodup, h.key, h.apart⟩

/-! ### runs -/
theorem Mp.find {k : Value} {l : Lit} (K : KeyLaw P kt) (h : Mp P kt w b es clock) (hk : keyOf P kt k = some l) :
    ((Instr.findKey kt k es).run P w = .ok none w ∧ ∀ e ∈ es, e.key ≠ k) ∨ ∃ j e, (Instr.findKey kt k es).run P w = .ok (some (j, e.val)) w ∧ es[j]? = some e ∧ e.key = k := K.find w hk es h.key
theorem Mp.run_lookup {t et : TypeId} {z k : Value} {l : Lit} (K : KeyLaw P kt) (ht : P.underlying t = some (.map kt et)) (h : Mp P kt w b es clock) (hz : (zeroValue et).run P w = .ok z w) (hk : keyOf P kt k = some l) :
    ((Instr.lookup t (.map (some b)) k false).run P w = .ok z w ∧ ∀ e ∈ es, e.key ≠ k) ∨ ∃ e ∈ es, e.key = k ∧ (Instr.lookup t (.map (some b)) k false).run P w = .ok e.val w := by
  rcases h.find K hk with ⟨h1, h2⟩ | ⟨j, e, h1, h2, h3⟩
  · refine .inl ⟨?_, h2⟩
    simp [Instr.lookup, run_underlying ht, MapKept.run_getObj_map h.heap, K.check w _ hk, h1, hz]
  · refine .inr ⟨e, List.mem_of_getElem? h2, h3, ?_⟩
    simp [Instr.lookup, run_underlying ht, MapKept.run_getObj_map h.heap, K.check w _ hk, h1]
theorem Mp.run_update {t et : TypeId} {k : Value} {l : Lit} (K : KeyLaw P kt) (ht : P.underlying t = some (.map kt et)) (h : Mp P kt w b es clock) (hk : keyOf P kt k = some l) (v : Value) :
    ∃ es' clock' w', (Instr.mapUpdate t (.map (some b)) k v).run P w = .ok () w' ∧ Chg (fun q => q = b) w w' ∧ Mp P kt w' b es' clock' ∧
      (((∀ e ∈ es, e.key ≠ k) ∧ es' = es ++ [⟨k, v, clock⟩] ∧ clock' = clock + 1) ∨ ∃ j e, es[j]? = some e ∧ e.key = k ∧ es' = es.set j ⟨k, v, e.born⟩ ∧ clock' = clock) := by
  rcases h.find K hk with ⟨h1, h2⟩ | ⟨j, e, h1, h2, h3⟩
  · refine ⟨_, _, _, ?_, Chg.setBlock w b _, h.push hk h2, .inl ⟨h2, rfl, rfl⟩⟩
    simp [Instr.mapUpdate, run_underlying ht, MapKept.run_getObj_map h.heap, K.check w _ hk, h1, MapKept.run_setObj_map _ h.heap, ChangeMaps.setBlock]
  · subst h3
    refine ⟨_, _, _, ?_, Chg.setBlock w b _, h.put h2 v, .inr ⟨j, e, h2, rfl, rfl, rfl⟩⟩
    have e2 : es.toArray[j]? = some e := by simpa using h2
    have e3 : es.toArray.modify j (fun x => { x with key := e.key, val := v }) = (es.set j ⟨e.key, v, e.born⟩).toArray := by
      rw [List.modify_toArray]
      congr 1
      exact ChangeMaps.modify_eq_set _ es j e h2
    have e4 : (if es.toArray.size = 0 then true else false) = es.toArray.isEmpty := by simp [Array.isEmpty]
    simp only [Instr.mapUpdate, Sem.run_bind, run_underlying ht, Result.andThen_ok, MapKept.run_getObj_map h.heap, K.check w _ hk, h1, e2, Option.map_some, Option.getD_some, K.stays w hk, MapKept.run_setObj_map _ h.heap, e3]
    rfl
theorem Mp.run_entry {t et : TypeId} {z k : Value} {l : Lit} (K : KeyLaw P kt) (ht : P.underlying t = some (.map kt et)) (h : Mp P kt w b es clock) (hz : (zeroValue et).run P w = .ok z w) (hk : keyOf P kt k = some l) :
    ∃ es' clock' w' j e, (Instr.mapEntry t (.map (some b)) k).run P w = .ok (.tuple #[e.val, .int .i64 (e.born : Int)]) w' ∧ Chg (fun q => q = b) w w' ∧ Mp P kt w' b es' clock' ∧ es'[j]? = some e ∧ e.key = k ∧
      (((∀ x ∈ es, x.key ≠ k) ∧ e = ⟨k, z, clock⟩ ∧ es' = es ++ [e] ∧ j = es.length ∧ clock' = clock + 1) ∨ (es' = es ∧ clock' = clock)) := by
  rcases h.find K hk with ⟨h1, h2⟩ | ⟨j, e, h1, h2, h3⟩
  · refine ⟨_, _, _, es.length, ⟨k, z, clock⟩, ?_, Chg.setBlock w b _, h.push (v := z) hk h2, by simp, rfl, .inl ⟨h2, rfl, rfl, rfl, rfl⟩⟩
    simp [Instr.mapEntry, run_underlying ht, MapKept.run_getObj_map h.heap, K.check w _ hk, h1, hz, MapKept.run_setObj_map _ h.heap, ChangeMaps.setBlock, goInt]
  · subst h3
    refine ⟨_, _, _, j, e, ?_, Chg.setBlock w b _, h.same, h2, rfl, .inr ⟨rfl, rfl⟩⟩
    have e2 : es.toArray[j]? = some e := by simpa using h2
    have e3 : es.toArray.modify j (fun x => { x with key := e.key }) = es.toArray := by
      rw [List.modify_toArray]
      congr 1
      rw [ChangeMaps.modify_eq_set _ es j e h2]
      obtain ⟨hj, rfl⟩ := List.getElem?_eq_some_iff.1 h2
      exact List.set_getElem_self hj
    simp only [Instr.mapEntry, Sem.run_bind, run_underlying ht, Result.andThen_ok, MapKept.run_getObj_map h.heap, K.check w _ hk, h1, e2, Option.map_some, Option.getD_some, K.stays w hk, MapKept.run_setObj_map _ h.heap, e3]
    rfl
theorem Mp.run_store {t : TypeId} {j : Nat} {e : MapEntry} (h : Mp P kt w b es clock) (he : es[j]? = some e) (v : Value) :
    ∃ w', (Instr.entryStore t (.map (some b)) (.int .i64 (e.born : Int)) v).run P w = .ok () w' ∧ Chg (fun q => q = b) w w' ∧ Mp P kt w' b (es.set j ⟨e.key, v, e.born⟩) clock := by
  refine ⟨_, ?_, Chg.setBlock w b _, h.put he v⟩
  have hf : es.toArray.findIdx? (fun x => ((x.born : Nat) : Int) == (e.born : Int)) = some j := by
    rw [List.findIdx?_toArray, List.findIdx?_eq_some_iff_getElem]
    obtain ⟨hj, rfl⟩ := List.getElem?_eq_some_iff.1 he
    refine ⟨hj, by simp, fun i hi => ?_⟩
    intro hc
    have hb : es[i].born = es[j].born := by
      have hc' : ((es[i].born : Nat) : Int) = (es[j].born : Nat) := by simpa using hc
      omega
    have := h.uniqB (i := i) (j := j) (List.getElem?_eq_getElem (by omega)) (List.getElem?_eq_getElem hj) hb
    omega
  have e3 : es.toArray.modify j (fun x => { x with val := v }) = (es.set j ⟨e.key, v, e.born⟩).toArray := by
    rw [List.modify_toArray]
    congr 1
    exact ChangeMaps.modify_eq_set _ es j e he
  have ha : ∀ w, (asInt (.int .i64 (e.born : Int))).run P w = .ok (e.born : Int) w := fun w => by simp [asInt, asIntOf]
  simp only [Instr.entryStore, Sem.run_bind, Sem.run_pure, MapKept.run_getObj_map h.heap, Result.andThen_ok, ha, hf, MapKept.run_setObj_map _ h.heap, e3]
  rfl
theorem Mp.run_delete {t et ty : TypeId} {k : Value} {l : Lit} (K : KeyLaw P kt) (ht : P.underlying t = some (.map kt et)) (h : Mp P kt w b es clock) (hk : keyOf P kt k = some l) :
    ∃ es' w', (Builtin.delete_ #[t, kt] ty #[.map (some b), k]).run P w = .ok (.tuple #[]) w' ∧ Chg (fun q => q = b) w w' ∧ Mp P kt w' b es' clock ∧ (((∀ e ∈ es, e.key ≠ k) ∧ es' = es) ∨ ∃ j e, es[j]? = some e ∧ e.key = k ∧ es' = es.eraseIdx j) := by
  rcases h.find K hk with ⟨h1, h2⟩ | ⟨j, e, h1, h2, h3⟩
  · refine ⟨_, _, ?_, Chg.setBlock w b _, h.same, .inl ⟨h2, rfl⟩⟩
    simp [Builtin.delete_, run_underlying ht, MapKept.run_getObj_map h.heap, K.check w _ hk, h1, MapKept.run_setObj_map _ h.heap, ChangeMaps.setBlock]
  · refine ⟨_, _, ?_, Chg.setBlock w b _, h.drop j, .inr ⟨j, e, h2, h3, rfl⟩⟩
    simp [Builtin.delete_, run_underlying ht, MapKept.run_getObj_map h.heap, K.check w _ hk, h1, MapKept.run_setObj_map _ h.heap, ChangeMaps.setBlock]
end

/-- The entry at a key, as 'mapEntry' lays it: the entries with it, the clock, its place. -/
structure Pre (es : List MapEntry) (clock : Nat) (k z : Value) (es' : List MapEntry) (clock' j : Nat) (e : MapEntry) : Prop where
  key : e.key = k
  get : es'[j]? = some e
  is : ((∀ x ∈ es, x.key ≠ k) ∧ e = ⟨k, z, clock⟩ ∧ es' = es ++ [e] ∧ j = es.length ∧ clock' = clock + 1) ∨ (es' = es ∧ clock' = clock)
theorem Pre.exist (es : List MapEntry) (clock : Nat) (k z : Value) : ∃ es' clock' j e, Pre es clock k z es' clock' j e := by
  by_cases h : ∃ e ∈ es, e.key = k
  · obtain ⟨e, he, hk⟩ := h
    obtain ⟨j, hj⟩ := List.mem_iff_getElem?.1 he
    exact ⟨es, clock, j, e, hk, hj, .inr ⟨rfl, rfl⟩⟩
  · exact ⟨es ++ [⟨k, z, clock⟩], clock + 1, es.length, ⟨k, z, clock⟩, rfl, by simp, .inl ⟨fun x hx hk => h ⟨x, hx, hk⟩, rfl, rfl, rfl, rfl⟩⟩
theorem Pre.one {P : Program} {kt : TypeId} {w : World} {b : Nat} {es es1 es2 : List MapEntry} {clock c1 c2 j1 j2 : Nat} {k z : Value} {e1 e2 : MapEntry} (h : Mp P kt w b es clock) (p1 : Pre es clock k z es1 c1 j1 e1) (p2 : Pre es clock k z es2 c2 j2 e2) : es1 = es2 ∧ c1 = c2 ∧ j1 = j2 ∧ e1 = e2 := by
  rcases p1.is with ⟨h1, rfl, rfl, rfl, rfl⟩ | ⟨rfl, rfl⟩ <;> rcases p2.is with ⟨g1, rfl, rfl, rfl, rfl⟩ | ⟨rfl, rfl⟩
  · exact ⟨rfl, rfl, rfl, rfl⟩
  · exact absurd p2.key (h1 _ (List.mem_of_getElem? p2.get))
  · exact absurd p1.key (g1 _ (List.mem_of_getElem? p1.get))
  · have := h.uniq p1.get p2.get (p1.key.trans p2.key.symm)
    subst this
    have := p1.get.symm.trans p2.get
    exact ⟨rfl, rfl, rfl, Option.some.inj this⟩

/-! ### what a key is -/
theorem keyLits_int {P : Program} {d : Nat} {t : TypeId} {q : IntKind} {n : Int} (ht : P.underlying t = some (.int q)) (hw : (Lit.int q n).wf = true) : P.keyLits (d + 1) t [.int q n] = some [.int q n] := by
  simp [Program.keyLits, ht, hw]
theorem mapM_some {α β : Type} {f : α → Option β} : ∀ (l : List α), (∀ x ∈ l, ∃ y, f x = some y) → ∃ ys, l.mapM f = some ys
  | [], _ => ⟨[], rfl⟩
  | x :: r, h => by
    obtain ⟨y, hy⟩ := h x (by simp)
    obtain ⟨ys, hys⟩ := mapM_some r fun z hz => h z (by simp [hz])
    exact ⟨y :: ys, by rw [List.mapM_cons, hy, hys]; rfl⟩
/-- 32 bytes as a key. -/
theorem keyOf_bytes {P : Program} {kt e : TypeId} {k : List UInt8} (ht : P.underlying kt = some (.array 32 e)) (he : P.underlying e = some (.int .u8)) (hc : P.cellsOf kt = 32) (hce : P.cellsOf e = 1) (hk : P.keyType kt = true) (hs : 0 < P.types.size) (hl : k.length = 32) :
    ∃ l, keyOf P kt (.agg (k.map byteV).toArray) = some l := by
  have h1 : (Value.agg (k.map byteV).toArray).formed P kt = true := by simp [Value.formed, ht, hc, hl]
  have h2 : ∃ ls, P.keyLits (P.types.size + 1) kt (k.map byteV) = some ls := by
    obtain ⟨n, hn⟩ : ∃ n, P.types.size = n + 1 := ⟨P.types.size - 1, by omega⟩
    rw [hn]
    unfold Program.keyLits
    simp only [ht, hc, hce, List.length_map, hl, if_true]
    obtain ⟨ys, hys⟩ := mapM_some (f := fun i => P.keyLits (n + 1) e (((k.map byteV).drop (i * 1)).take 1)) (List.range 32) (fun i hi => by
      have hi : i < k.length := by simpa [hl] using hi
      refine ⟨[.int .u8 ((k[i].toNat : Nat) : Int)], ?_⟩
      rw [Nat.mul_one, List.drop_eq_getElem_cons (by simpa using hi), List.take_succ_cons, List.take_zero, List.getElem_map]
      exact keyLits_int he (by
        have := (k[i]).toNat_lt
        have e1 : IntKind.u8.min = 0 := rfl
        have e2 : IntKind.u8.max = 255 := rfl
        unfold Lit.wf
        simp [e1, e2]
        omega))
    exact ⟨_, by rw [hys]; rfl⟩
  obtain ⟨ls, hls⟩ := h2
  exact ⟨_, by
    unfold keyOf
    rw [ht]
    simp only [hk, h1, Bool.and_self, if_true]
    show (P.keyLits (P.types.size + 1) kt ((Value.agg (k.map byteV).toArray).cells).toList).map _ = _
    rw [show ((Value.agg (k.map byteV).toArray).cells).toList = k.map byteV from rfl, hls]; rfl⟩
/-- Two numbers as a key. -/
theorem keyOf_pair {P : Program} {kt e : TypeId} {fs : Array Field} {a c : Int} (ht : P.underlying kt = some (.struct fs)) (hf : fs.toList.map (fun f => (f.name != "_", f.type, f.offset)) = [(true, e, 0), (true, e, 1)]) (he : P.underlying e = some (.int .i64)) (hc : P.cellsOf kt = 2) (hce : P.cellsOf e = 1) (hk : P.keyType kt = true) (hs : 0 < P.types.size)
    (ha : -9223372036854775808 ≤ a ∧ a ≤ 9223372036854775807) (hb : -9223372036854775808 ≤ c ∧ c ≤ 9223372036854775807) : ∃ l, keyOf P kt (.agg #[.int .i64 a, .int .i64 c]) = some l := by
  have h1 : (Value.agg #[.int .i64 a, .int .i64 c]).formed P kt = true := by simp [Value.formed, ht, hc]
  have w1 : (Lit.int .i64 a).wf = true := WalkArith.wf_i64 ha
  have w2 : (Lit.int .i64 c).wf = true := WalkArith.wf_i64 hb
  have h2 : ∃ ls, P.keyLits (P.types.size + 1) kt [.int .i64 a, .int .i64 c] = some ls := by
    obtain ⟨n, hn⟩ : ∃ n, P.types.size = n + 1 := ⟨P.types.size - 1, by omega⟩
    rw [hn]
    unfold Program.keyLits
    simp only [ht]
    obtain ⟨l, rfl⟩ : ∃ l : List Field, fs = l.toArray := ⟨fs.toList, by simp⟩
    rcases l with _ | ⟨f, _ | ⟨g, _ | ⟨q, r⟩⟩⟩
    · simp at hf
    · simp at hf
    · simp only [List.map_cons, List.map_nil, List.cons.injEq, Prod.mk.injEq, and_true] at hf
      obtain ⟨⟨n1, t1, o1⟩, ⟨n2, t2, o2⟩⟩ := hf
      refine ⟨[.int .i64 a, .int .i64 c], ?_⟩
      simp only [hc, List.length_cons, List.length_nil, Nat.zero_add, true_and]
      rw [if_pos (by simp [n1, n2])]
      simp only [List.mapM_cons, List.mapM_nil, t1, t2, o1, o2, hce]
      rw [show (List.take 1 (List.drop 0 [Value.int .i64 a, Value.int .i64 c])) = [Value.int .i64 a] from rfl, show (List.take 1 (List.drop 1 [Value.int .i64 a, Value.int .i64 c])) = [Value.int .i64 c] from rfl, keyLits_int he w1, keyLits_int he w2]
      rfl
    · simp at hf
  obtain ⟨ls, hls⟩ := h2
  exact ⟨_, by
    unfold keyOf
    rw [ht]
    simp only [hk, h1, Bool.and_self, if_true]
    show (P.keyLits (P.types.size + 1) kt [.int .i64 a, .int .i64 c]).map _ = _
    rw [hls]; rfl⟩

section
variable {P : Program} {N : Nat} {Q : Exit → Act → World → Prop} {l : Env} {w : World} {ops : Array Oper} {rest : List Oper} {d : Tmp} {ty : TypeId} {pos : String} {aft : Array Edge}
variable {x y : Operand} {T T' : TypeId} {kt : TypeId} {b : Nat} {es : List MapEntry} {clock : Nat}
/-- An operation that yields a value which nobody takes. -/
theorem W.opNone {o : Oper} {v : Value} {w' : World} (hg : o.guard = none) (hd : o.dst = none) (hrun : ∀ a, Has N l a → (execOp a.eval o).run P w = .ok (.value v) w')
    (next : W P N ops Q rest l w') : W P N ops Q (o :: rest) l w :=
  ⟨fun a ha => wpList_plain hg fun K hK => by
    unfold Oper.wp
    rw [hrun a ha]
    simp only [Oper.upon, hd, Act.put]
    exact hK _ _ (next.out _ ha)⟩
theorem W.makeMap {t : TypeId} (hN : Nat.blt d N = true) (next : ∀ g w', g = w.heap.size → Ext w w' → Mp P kt w' g [] 0 → W P N ops Q rest ((d, .map (some g)) :: l) w') : W P N ops Q (⟨some d, .makeMap t none, ty, pos, aft, none⟩ :: rest) l w :=
  W.op rfl rfl hN (fun a ha => by
    have : (Instr.makeMap t none).run P w = .ok (.map (some w.heap.size)) (w.alloc (.map #[] 0)) := rfl
    simp only [execOp, Option.map_none, Sem.run_bind, this, Result.andThen_ok, Sem.run_pure]) (next _ _ rfl (Ext.alloc _ _) (Mp.made w))
theorem W.lenM {e : TypeId} (hx : ev l x = some (.map (some b))) (h : Mp P kt w b es clock) (hT : P.underlying T = some (.map kt e)) (hN : Nat.blt d N = true) (next : W P N ops Q rest ((d, .int .i64 (es.length : Int)) :: l) w) : W P N ops Q (⟨some d, .call ⟨.builtin .len, #[x], #[T]⟩, ty, pos, aft, none⟩ :: rest) l w :=
  run_len (by simp [Builtin.len_, run_underlying hT, MapKept.run_getObj_map h.heap, goInt]) hx hN next
theorem W.lookupM {t et : TypeId} {z k : Value} {lk : Lit} (K : KeyLaw P kt) (hT : P.underlying t = some (.map kt et)) (hz : (P.info? et).map (·.zero) = some (some z)) (hx : ev l x = some (.map (some b))) (hy : ev l y = some k) (h : Mp P kt w b es clock) (hk : keyOf P kt k = some lk) (hN : Nat.blt d N = true)
    (next : ∀ r, (((∀ e ∈ es, e.key ≠ k) ∧ r = z) ∨ ∃ e ∈ es, e.key = k ∧ r = e.val) → W P N ops Q rest ((d, r) :: l) w) : W P N ops Q (⟨some d, .lookup t x y false, ty, pos, aft, none⟩ :: rest) l w := by
  have hzv : (zeroValue et).run P w = .ok z w := by
    cases hq : P.info? et with
    | none => simp [hq] at hz
    | some i => have hs : i.zero = some z := by simpa [hq] using hz
                simp [zeroValue, typeInfo, hq, hs]
  rcases h.run_lookup K hT hzv hk with ⟨hr, h2⟩ | ⟨e, he, h3, hr⟩
  · exact W.op rfl rfl hN (fun a ha => by simp only [execOp, ha.ev hx, ha.ev hy, Sem.run_bind, Sem.run_pure, hr, Result.andThen_ok]) (next _ (.inl ⟨h2, rfl⟩))
  · exact W.op rfl rfl hN (fun a ha => by simp only [execOp, ha.ev hx, ha.ev hy, Sem.run_bind, Sem.run_pure, hr, Result.andThen_ok]) (next _ (.inr ⟨e, he, h3, rfl⟩))
theorem W.updateM {t et : TypeId} {k v : Value} {z : Operand} {lk : Lit} (K : KeyLaw P kt) (hT : P.underlying t = some (.map kt et)) (hx : ev l x = some (.map (some b))) (hy : ev l y = some k) (hz : ev l z = some v) (h : Mp P kt w b es clock) (hk : keyOf P kt k = some lk)
    (next : ∀ es' clock' w', Chg (fun q => q = b) w w' → Mp P kt w' b es' clock' → (((∀ e ∈ es, e.key ≠ k) ∧ es' = es ++ [⟨k, v, clock⟩] ∧ clock' = clock + 1) ∨ ∃ j e, es[j]? = some e ∧ e.key = k ∧ es' = es.set j ⟨k, v, e.born⟩ ∧ clock' = clock) → W P N ops Q rest l w') :
    W P N ops Q (⟨none, .mapUpdate t x y z, ty, pos, aft, none⟩ :: rest) l w := by
  obtain ⟨es', clock', w', hr, hc, hm, hd⟩ := h.run_update K hT hk v
  refine W.opSkip rfl rfl (fun a ha => ?_) (next es' clock' w' hc hm hd)
  simp only [execOp, ha.ev hx, ha.ev hy, ha.ev hz, Sem.run_bind, Sem.run_pure, hr, Result.andThen_ok]
theorem W.mapEntry {t et : TypeId} {z k : Value} {lk : Lit} (K : KeyLaw P kt) (hT : P.underlying t = some (.map kt et)) (hz : (P.info? et).map (·.zero) = some (some z)) (hx : ev l x = some (.map (some b))) (hy : ev l y = some k) (h : Mp P kt w b es clock) (hk : keyOf P kt k = some lk) (hN : Nat.blt d N = true)
    (next : ∀ es' clock' w' j e, Chg (fun q => q = b) w w' → Mp P kt w' b es' clock' → es'[j]? = some e → e.key = k → (((∀ x ∈ es, x.key ≠ k) ∧ e = ⟨k, z, clock⟩ ∧ es' = es ++ [e] ∧ j = es.length ∧ clock' = clock + 1) ∨ (es' = es ∧ clock' = clock)) → W P N ops Q rest ((d, .tuple #[e.val, .int .i64 (e.born : Int)]) :: l) w') :
    W P N ops Q (⟨some d, .mapEntry t x y, ty, pos, aft, none⟩ :: rest) l w := by
  have hzv : (zeroValue et).run P w = .ok z w := by
    cases hq : P.info? et with
    | none => simp [hq] at hz
    | some i => have hs : i.zero = some z := by simpa [hq] using hz
                simp [zeroValue, typeInfo, hq, hs]
  obtain ⟨es', clock', w', j, e, hr, hc, hm, h1, h2, h3⟩ := h.run_entry K hT hzv hk
  refine W.op rfl rfl hN (fun a ha => ?_) (next es' clock' w' j e hc hm h1 h2 h3)
  simp only [execOp, ha.ev hx, ha.ev hy, Sem.run_bind, Sem.run_pure, hr, Result.andThen_ok]
theorem W.entryStore {t j : Nat} {e : MapEntry} {v : Value} {z : Operand} (hx : ev l x = some (.map (some b))) (hy : ev l y = some (.int .i64 (e.born : Int))) (hz : ev l z = some v) (h : Mp P kt w b es clock) (he : es[j]? = some e)
    (next : ∀ w', Chg (fun q => q = b) w w' → Mp P kt w' b (es.set j ⟨e.key, v, e.born⟩) clock → W P N ops Q rest l w') :
    W P N ops Q (⟨none, .entryStore t x y z, ty, pos, aft, none⟩ :: rest) l w := by
  obtain ⟨w', hr, hc, hm⟩ := h.run_store (t := t) he v
  refine W.opSkip rfl rfl (fun a ha => ?_) (next w' hc hm)
  simp only [execOp, ha.ev hx, ha.ev hy, ha.ev hz, Sem.run_bind, Sem.run_pure, hr, Result.andThen_ok]
theorem W.deleteM {t et : TypeId} {k : Value} {lk : Lit} (K : KeyLaw P kt) (hT : P.underlying t = some (.map kt et)) (hx : ev l x = some (.map (some b))) (hy : ev l y = some k) (h : Mp P kt w b es clock) (hk : keyOf P kt k = some lk)
    (next : ∀ es' w', Chg (fun q => q = b) w w' → Mp P kt w' b es' clock → (((∀ e ∈ es, e.key ≠ k) ∧ es' = es) ∨ ∃ j e, es[j]? = some e ∧ e.key = k ∧ es' = es.eraseIdx j) → W P N ops Q rest l w') :
    W P N ops Q (⟨none, .call ⟨.builtin .delete, #[x, y], #[t, kt]⟩, ty, pos, aft, none⟩ :: rest) l w := by
  obtain ⟨es', w', hr, hc, hm, hd⟩ := h.run_delete (ty := ty) K hT hk
  refine W.opNone (v := .tuple #[]) rfl rfl (fun a ha => ?_) (next es' w' hc hm hd)
  simp only [execOp, resolve, invoke, builtin, Sem.run_bind, Sem.run_pure, Result.andThen_ok, List.map_toArray, List.map_cons, List.map_nil, ha.ev hx, ha.ev hy, hr]

/-! ### ranging -/
/-- Block r is an iterator over block b, begun at a clock, that has handed out the stamps of seen; no entry was laid since. -/
def It (w : World) (r b since : Nat) (seen : Array Nat) (c : Nat) : Prop := w.heap[r]? = some (.mapIter (some b) since seen c) ∧ since ≤ c
theorem It.lt {r since c : Nat} {seen : Array Nat} (h : It w r b since seen c) : r < w.heap.size := (Array.getElem?_eq_some_iff.1 h.1).1
theorem It.chg {S : Nat → Prop} {w' : World} {r since c : Nat} {seen : Array Nat} (h : It w r b since seen c) (g : Chg S w w') (hn : ¬ S r) : It w' r b since seen c := ⟨(g.block r h.lt hn).trans h.1, h.2⟩
theorem W.rangeM {t et : TypeId} (hT : P.underlying t = some (.map kt et)) (hx : ev l x = some (.map (some b))) (h : Mp P kt w b es clock) (hN : Nat.blt d N = true)
    (next : ∀ r w', r = w.heap.size → Ext w w' → It w' r b clock #[] clock → W P N ops Q rest ((d, .pointer (some ⟨r, 0, none⟩)) :: l) w') : W P N ops Q (⟨some d, .range t x, ty, pos, aft, none⟩ :: rest) l w := by
  refine W.op rfl rfl hN (fun a ha => ?_) (next w.heap.size _ rfl (Ext.alloc _ _) ⟨heap_alloc_last w _, Nat.le_refl _⟩)
  have hr := run_range_map (P := P) w t kt et b es.toArray clock hT h.heap
  simp only [execOp, ha.ev hx, Sem.run_bind, Sem.run_pure, hr, Result.andThen_ok]
/-- A step: nothing is left, or an entry comes that was not seen. -/
theorem W.nextM {r c : Nat} {seen : Array Nat} (hx : ev l x = some (.pointer (some ⟨r, 0, none⟩))) (hi : It w r b clock seen c) (h : Mp P kt w b es clock) (hN : Nat.blt d N = true)
    (over : (∀ e ∈ es, seen.contains e.born = true) → W P N ops Q rest ((d, .tuple #[.bool false]) :: l) w)
    (more : ∀ (j : Nat) (e : MapEntry) (w' : World), es[j]? = some e → seen.contains e.born = false → Chg (fun q => q = r) w w' → It w' r b clock (seen.push e.born) clock → W P N ops Q rest ((d, .tuple #[.bool true, e.key, e.val]) :: l) w') :
    W P N ops Q (⟨some d, .next x false, ty, pos, aft, none⟩ :: rest) l w := by
  rcases run_next_at (P := P) w ty r b clock c seen es.toArray clock hi.1 h.heap (by simpa using h.born) hi.2 with ⟨h0, hr⟩ | ⟨e, he, w1, hw1, hr⟩
  · refine W.op rfl rfl hN (fun a ha => ?_) (over fun e he => ?_)
    · simp only [execOp, ha.ev hx, Sem.run_bind, Sem.run_pure, hr, Result.andThen_ok]
    · have := Array.eq_empty_of_size_eq_zero h0
      unfold leftOf at this
      rw [Array.filter_eq_empty_iff] at this
      simpa using this e (by simpa using he)
  · have hm : e ∈ es ∧ seen.contains e.born = false := by
      unfold leftOf at he
      simpa using he
    obtain ⟨j, hj⟩ := List.mem_iff_getElem?.1 hm.1
    have hX : Ext w w1 := by rcases hw1 with rfl | rfl; exact Ext.refl _; exact Ext.drew _
    have hl1 : r < w1.heap.size := Nat.lt_of_lt_of_le hi.lt hX.size
    refine W.op rfl rfl hN (fun a ha => ?_) (more j e _ hj hm.2 ((Chg.setBlock w1 r _).mono (fun k hk => hk) |> fun g => (hX.mono fun _ c => c.elim).trans g) ⟨setBlock_heap hl1, Nat.le_refl _⟩)
    simp only [execOp, ha.ev hx, Sem.run_bind, Sem.run_pure, hr, Result.andThen_ok]
/-- The key and the value of the step. -/
theorem W.entryM {r j : Nat} {seen : Array Nat} {e : MapEntry} (hx : ev l x = some (.pointer (some ⟨r, 0, none⟩))) (hi : It w r b clock (seen.push e.born) clock) (h : Mp P kt w b es clock) (he : es[j]? = some e) (hN : Nat.blt d N = true)
    (next : W P N ops Q rest ((d, .tuple #[e.key, e.val]) :: l) w) : W P N ops Q (⟨some d, .entry x, ty, pos, aft, none⟩ :: rest) l w := by
  have hr := run_entry_at (P := P) w r b clock seen es.toArray clock e hi.1 h.heap (by simpa using List.mem_of_getElem? he) (by simpa using h.nodup)
  exact W.op rfl rfl hN (fun a ha => by simp only [execOp, ha.ev hx, Sem.run_bind, Sem.run_pure, hr, Result.andThen_ok]) next
end
end Go.Proofs.Ythiijdbiikljpaa.KW
