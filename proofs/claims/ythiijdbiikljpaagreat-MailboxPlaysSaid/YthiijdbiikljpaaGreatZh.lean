/- How arguments of chapter 11's types are told to the walks. Chapter 23's acts: how rows of them are told to the walks. Rows that grow inside a region that draws its order: a relation between worlds under which each row keeps the beginning of one list. The readers of package codec and of the reference: what a call reads, and what is left. Package codec's functions that read: keys, proofs, notes, submissions, entries. Package codec's functions that read: entries and submissions. Package codec's function that reads a submission. -/
import Derived.Test.YthiijdbiikljpaaGreatZg
import Derived.Test.YthiijdbiikljpaaGreatZf
import Derived.Test.YthiijdbiikljpaaGreatZd
import Derived.Test.YthiijdbiikljpaaGreatZb
import Derived.Test.YthiijdbiikljpaaGreatZe
namespace Go.Proofs.YthiijdbiikljpaaGreat.Cod
open Go Go.RowKit Go.Proofs.YthiijdbiikljpaaGreat.KW Go.Proofs.YthiijdbiikljpaaGreat.Words Go.Proofs.YthiijdbiikljpaaGreat.Grp Go.ChangeShapes Go.WideShapes
set_option linter.unusedVariables false
set_option maxRecDepth 100000
section
variable {H : Type} {enc : TypeId × Value → H} {w : World} {base : Nat} {spare : Nat → Bool} {held : Bool}
theorem some_of {α : Type} {l : List α} {i : Nat} (h : i < l.length) : ∃ x, l[i]? = some x := ⟨_, List.getElem?_eq_getElem h⟩
theorem cells_Letter {fuel : Nat} {cs : List Value} {x : DataW H × List MemPlace} (h : DataW.trod enc Tryz.prog w base spare held fuel 58 cs = some x) : ∃ p : Let, RLet (fun _ => False) w cs p ∧ p.2.length ≤ 9223372036854775807 := by
 obtain ⟨xs, n, _, _, hl, hlen, hf⟩ := DataW.trod_struct Tryz.underlying58 h
 have hl : cs.length = 33 := by rw [hl]; kernel_rfl
 have hlen : xs.length = 2 := hlen
 obtain ⟨x0, e0⟩ := some_of (l := xs) (i := 0) (by omega)
 obtain ⟨x1, e1⟩ := some_of (l := xs) (i := 1) (by omega)
 have h0 := (hf 0 _ rfl).trans e0
 have h1 := (hf 1 _ rfl).trans e1
 obtain ⟨k, g0, b0⟩ := cells_key (n := 32) Tryz.underlying43 Tryz.underlying5 (by kernel_rfl) (by kernel_rfl) h0
 obtain ⟨ao, c, b, g1, hb, b1⟩ := cells_bytes Tryz.underlying22 Tryz.underlying5 (by kernel_rfl) h1
 have c0 : (cs.drop 0).take 32 = k.map byteV := g0
 have c1 : (cs.drop 32).take 1 = [.slice ao b.length c] := g1
 have hmx : maxLen ≤ 9223372036854775807 := by decide
 refine ⟨(k, b), ⟨.slice ao b.length c, ?_, ⟨ao, c, rfl, hb, fun _ _ _ h => h⟩, b0⟩, by have := hb.le; show b.length ≤ _; omega⟩
 have e : cs = (cs.drop 0).take 32 ++ (cs.drop 32).take 1 := by
   have d2 : (cs.drop 32).take 1 = cs.drop 32 := List.take_of_length_le (by rw [List.length_drop]; omega)
   rw [d2]
   have d0 := List.take_append_drop 32 (cs.drop 0)
   rw [List.drop_drop] at d0
   rw [d0, List.drop_zero]
 rw [e, c0, c1]
theorem cells_Letters {fuel : Nat} {cs : List Value} {x : DataW H × List MemPlace} (h : DataW.trod enc Tryz.prog w base spare held fuel 37 cs = some x) : ∃ ao c, ∃ es : List Let, cs = [.slice ao es.length c] ∧ Els (fun _ => False) w 33 RLet ao c es ∧ es.length ≤ 9223372036854775807 ∧ (∀ p ∈ es, p.2.length ≤ 9223372036854775807) ∧ ∀ p ∈ es, p.1.length = 32 := by
 obtain ⟨ao, c, es, e, hE, hc⟩ := cells_els (R := fun A w cs p => RLet A w cs p ∧ p.2.length ≤ 9223372036854775807) (sz := 33) Tryz.underlying37 (by kernel_rfl) (fun h => cells_Letter h) h
 exact ⟨ao, c, es, e, hE.mono (fun _ _ h => h.1), by have := hE.le; omega, hE.all (fun _ _ h => h.2), hE.all (fun _ _ h => by obtain ⟨⟨v, _, _, hk⟩, _⟩ := h; exact hk)⟩
theorem cells_Batch {fuel : Nat} {cs : List Value} {x : DataW H × List MemPlace} (h : DataW.trod enc Tryz.prog w base spare held fuel 39 cs = some x) : ∃ (x : BatD) (vi vl : Value), cs = batC x vi vl ∧ RNums (fun _ => False) w [vi] x.inner ∧ RSl 33 RLet (fun _ => False) w [vl] x.lets ∧ BatOk x ∧ x.inner.length ≤ 9223372036854775807 ∧ x.lets.length ≤ 9223372036854775807 ∧ ∀ p ∈ x.lets, p.2.length ≤ 9223372036854775807 := by
 obtain ⟨xs, n, _, _, hl, hlen, hf⟩ := DataW.trod_struct Tryz.underlying39 h
 have hl : cs.length = 4 := by rw [hl]; kernel_rfl
 have hlen : xs.length = 4 := hlen
 obtain ⟨x0, e0⟩ := some_of (l := xs) (i := 0) (by omega)
 obtain ⟨x1, e1⟩ := some_of (l := xs) (i := 1) (by omega)
 obtain ⟨x2, e2⟩ := some_of (l := xs) (i := 2) (by omega)
 obtain ⟨x3, e3⟩ := some_of (l := xs) (i := 3) (by omega)
 have h0 := (hf 0 _ rfl).trans e0
 have h1 := (hf 1 _ rfl).trans e1
 have h2 := (hf 2 _ rfl).trans e2
 have h3 := (hf 3 _ rfl).trans e3
 obtain ⟨a, g0, b0⟩ := cells_int Tryz.underlying3 h0
 obtain ⟨b, g1, b1⟩ := cells_int Tryz.underlying3 h1
 obtain ⟨ai, ci, ns, g2, hU, b2, b2'⟩ := cells_nums (M := M64) rfl rfl Tryz.underlying36 Tryz.underlying83 (by kernel_rfl) h2
 obtain ⟨al, cl, ls, g3, hE, b3, b3', b3''⟩ := cells_Letters h3
 have d0 : (cs.drop 0).take 1 = [.int .i64 a] := g0
 have d1 : (cs.drop 1).take 1 = [.int .i64 b] := g1
 have d2 : (cs.drop 2).take 1 = [.slice ai ns.length ci] := g2
 have d3 : (cs.drop 3).take 1 = [.slice al ls.length cl] := g3
 have hmx : maxLen ≤ 9223372036854775807 := by decide
 refine ⟨⟨a, b, ns, ls⟩, .slice ai ns.length ci, .slice al ls.length cl, ?_, ⟨ai, ci, rfl, hU, fun _ _ _ h => h, b2'⟩, ⟨al, cl, rfl, hE⟩, ⟨b0, b1, b2', b3''⟩, by have := hU.le; show ns.length ≤ _; omega, b3, b3'⟩
 have e : cs = (cs.drop 0).take 1 ++ ((cs.drop 1).take 1 ++ ((cs.drop 2).take 1 ++ (cs.drop 3).take 1)) := by
   have t3 : (cs.drop 3).take 1 = cs.drop 3 := List.take_of_length_le (by rw [List.length_drop]; omega)
   rw [t3]
   have t2 := List.take_append_drop 1 (cs.drop 2)
   rw [List.drop_drop] at t2
   rw [t2]
   have t1 := List.take_append_drop 1 (cs.drop 1)
   rw [List.drop_drop] at t1
   rw [t1]
   have t0 := List.take_append_drop 1 (cs.drop 0)
   rw [List.drop_drop] at t0
   rw [t0, List.drop_zero]
 rw [e, d0, d1, d2, d3]
 rfl
end
end Go.Proofs.YthiijdbiikljpaaGreat.Cod
namespace Go.Proofs.YthiijdbiikljpaaGreat.Mbx
open Go Go.RowKit Go.Proofs.YthiijdbiikljpaaGreat.KW Go.Proofs.YthiijdbiikljpaaGreat.Words Go.Proofs.YthiijdbiikljpaaGreat.Sha Go.Proofs.YthiijdbiikljpaaGreat.RSha Go.Proofs.YthiijdbiikljpaaGreat.Grp Go.Proofs.YthiijdbiikljpaaGreat.Cod Go.Proofs.YthiijdbiikljpaaGreat.Disk Go.ChangeShapes Go.WideShapes
set_option linter.unusedVariables false
set_option linter.unusedSimpArgs false
set_option maxRecDepth 100000
structure MAct where
  way : Int
  n : Int
  x : BatD
  ps : List Nat
  f : List Int
  name : List UInt8
  fr : Int
  to : Int
structure MAct.Ok (p : MAct) : Prop where
  bat : BatOk p.x
  n : InI p.n
  key : p.name.length = 32
  fr : InI p.fr
  to : InI p.to
  li : p.x.inner.length ≤ 9223372036854775807
  ll : p.x.lets.length ≤ 9223372036854775807
  lb : ∀ q ∈ p.x.lets, q.2.length ≤ 9223372036854775807
  lp : p.ps.length ≤ 9223372036854775807
def actC (p : MAct) (vi vl vp vf : Value) : List Value := [.int .i64 p.way, .int .i64 p.n, .int .i64 p.x.round, .int .i64 p.x.chain, vi, vl, vp, vf] ++ (p.name.map byteV ++ [.int .i64 p.fr, .int .i64 p.to])
def RInts : RdT (List Int) := fun A w cs xs => ∃ a c, cs = [.slice a xs.length c] ∧ Zs w a c xs ∧ ∀ ad, a = some ad → xs ≠ [] → ¬ A ad.block
theorem RInts.form {A : Nat → Prop} {w : World} {v : Value} {xs : List Int} (h : RInts A w [v] xs) : ∃ a c, v = .slice a xs.length c ∧ Zs w a c xs ∧ ∀ ad, a = some ad → xs ≠ [] → ¬ A ad.block := by
 obtain ⟨a, c, e, h1, h2⟩ := h
 exact ⟨a, c, by simpa using e, h1, h2⟩
theorem rInts : RdOk RInts := by
 refine ⟨?_, ?_, ?_⟩
 rintro A w w' cs x ⟨a, c, rfl, hs, hn⟩ g
 exact ⟨a, c, rfl, Sl.chg hs g (fun ad e hc => hn ad e (by rintro rfl; exact hc rfl)), hn⟩
 rintro A B w cs x ⟨a, c, rfl, hs, hn⟩ h
 exact ⟨a, c, rfl, hs, fun ad e hx hB => hn ad e hx (h _ hB (Sl.blk hs e (by simpa using hx)))⟩
 rintro A w cs x ⟨a, c, rfl, _, _⟩ u hu
 obtain rfl := List.mem_singleton.1 hu
 rfl
def RMAct : RdT MAct := fun A w cs p => ∃ vi vl vp vf, cs = actC p vi vl vp vf ∧ RNums A w [vi] p.x.inner ∧ RSl 33 RLet A w [vl] p.x.lets ∧ RSl 10 RPub A w [vp] p.ps ∧ RInts A w [vf] p.f ∧ p.Ok
theorem actC_length {p : MAct} (h : p.name.length = 32) (vi vl vp vf : Value) : (actC p vi vl vp vf).length = 42 := by
 unfold actC; simp [h]
theorem actC_name {p : MAct} (h : p.name.length = 32) (vi vl vp vf : Value) : ((actC p vi vl vp vf).drop 8).take 32 = p.name.map byteV := by
 show (p.name.map byteV ++ _).take 32 = _
 rw [List.take_append_of_le_length (by simp [h]), List.take_of_length_le (by simp [h])]
theorem actC_fr {p : MAct} (h : p.name.length = 32) (vi vl vp vf : Value) : (actC p vi vl vp vf)[40]? = some (.int .i64 p.fr) := by
 unfold actC
 rw [List.getElem?_append_right (by simp), List.getElem?_append_right (by simp [h]), List.length_map, h]; rfl
theorem actC_to {p : MAct} (h : p.name.length = 32) (vi vl vp vf : Value) : (actC p vi vl vp vf)[41]? = some (.int .i64 p.to) := by
 unfold actC
 rw [List.getElem?_append_right (by simp), List.getElem?_append_right (by simp [h]), List.length_map, h]; rfl
theorem actC_one {A : Nat → Prop} {w : World} {p : MAct} {vi vl vp vf : Value} (h1 : RNums A w [vi] p.x.inner) (h2 : RSl 33 RLet A w [vl] p.x.lets) (h3 : RSl 10 RPub A w [vp] p.ps) (h4 : RInts A w [vf] p.f) : ∀ u ∈ actC p vi vl vp vf, u.oneCell' = true := by
 have e1 := rNums.one h1 vi (by simp)
 have e2 := (rSl 33 rLet).one h2 vl (by simp)
 have e3 := (rSl 10 rPub).one h3 vp (by simp)
 have e4 := rInts.one h4 vf (by simp)
 intro u hu
 unfold actC at hu
 rcases List.mem_append.1 hu with hu | hu
 simp only [List.mem_cons, List.not_mem_nil, or_false] at hu
 rcases hu with rfl | rfl | rfl | rfl | rfl | rfl | rfl | rfl <;> first | rfl | assumption
 rcases List.mem_append.1 hu with hu | hu
 exact bytes_oneCell _ u hu
 simp only [List.mem_cons, List.not_mem_nil, or_false] at hu
 rcases hu with rfl | rfl <;> rfl
theorem rMAct : RdOk RMAct := by
 refine ⟨?_, ?_, ?_⟩
 rintro A w w' cs x ⟨vi, vl, vp, vf, rfl, h1, h2, h3, h4, h5⟩ g
 exact ⟨vi, vl, vp, vf, rfl, rNums.chg h1 g, (rSl 33 rLet).chg h2 g, (rSl 10 rPub).chg h3 g, rInts.chg h4 g, h5⟩
 rintro A B w cs x ⟨vi, vl, vp, vf, rfl, h1, h2, h3, h4, h5⟩ g
 exact ⟨vi, vl, vp, vf, rfl, rNums.new h1 g, (rSl 33 rLet).new h2 g, (rSl 10 rPub).new h3 g, rInts.new h4 g, h5⟩
 rintro A w cs x ⟨vi, vl, vp, vf, rfl, h1, h2, h3, h4, h5⟩
 exact actC_one h1 h2 h3 h4
section
variable {H : Type} {enc : TypeId × Value → H} {w : World} {base : Nat} {spare : Nat → Bool} {held : Bool}
theorem cells_Proof2 {fuel : Nat} {cs : List Value} {x : DataW H × List MemPlace} (h : DataW.trod enc Tryz.prog w base spare held fuel 86 cs = some x) : ∃ a b : Nat, cs = [.int .u64 (a : Int), .int .u64 (b : Int)] := by
 obtain ⟨xs, n, _, _, hl, hlen, hf⟩ := DataW.trod_struct Tryz.underlying86 h
 have hl : cs.length = 2 := by rw [hl]; kernel_rfl
 have hlen : xs.length = 2 := hlen
 obtain ⟨x0, e0⟩ := Cod.some_of (l := xs) (i := 0) (by omega)
 obtain ⟨x1, e1⟩ := Cod.some_of (l := xs) (i := 1) (by omega)
 have h0 := (hf 0 _ rfl).trans e0
 have h1 := (hf 1 _ rfl).trans e1
 obtain ⟨a, g0, b0⟩ := cells_num (M := M64) rfl rfl Tryz.underlying83 h0
 obtain ⟨b, g1, b1⟩ := cells_num (M := M64) rfl rfl Tryz.underlying83 h1
 have c0 : (cs.drop 0).take 1 = [.int .u64 (a : Int)] := g0
 have c1 : (cs.drop 1).take 1 = [.int .u64 (b : Int)] := g1
 refine ⟨a, b, ?_⟩
 have e : cs = (cs.drop 0).take 1 ++ (cs.drop 1).take 1 := by
   have d2 : (cs.drop 1).take 1 = cs.drop 1 := List.take_of_length_le (by rw [List.length_drop]; omega)
   rw [d2]
   have d0 := List.take_append_drop 1 (cs.drop 0)
   rw [List.drop_drop] at d0
   rw [d0, List.drop_zero]
 rw [e, c0, c1]
 rfl
theorem cells_Public {fuel : Nat} {cs : List Value} {x : DataW H × List MemPlace} (h : DataW.trod enc Tryz.prog w base spare held fuel 88 cs = some x) : ∃ n : Nat, RPub (fun _ => False) w cs n := by
 obtain ⟨xs, n, _, _, hl, hlen, hf⟩ := DataW.trod_struct Tryz.underlying88 h
 have hl : cs.length = 10 := by rw [hl]; kernel_rfl
 have hlen : xs.length = 7 := hlen
 obtain ⟨x0, e0⟩ := Cod.some_of (l := xs) (i := 0) (by omega)
 obtain ⟨x1, e1⟩ := Cod.some_of (l := xs) (i := 1) (by omega)
 obtain ⟨x2, e2⟩ := Cod.some_of (l := xs) (i := 2) (by omega)
 obtain ⟨x3, e3⟩ := Cod.some_of (l := xs) (i := 3) (by omega)
 obtain ⟨x4, e4⟩ := Cod.some_of (l := xs) (i := 4) (by omega)
 obtain ⟨x5, e5⟩ := Cod.some_of (l := xs) (i := 5) (by omega)
 obtain ⟨x6, e6⟩ := Cod.some_of (l := xs) (i := 6) (by omega)
 obtain ⟨a0, g0, b0⟩ := cells_num (M := M64) rfl rfl Tryz.underlying83 ((hf 0 _ rfl).trans e0)
 obtain ⟨a1, g1, b1⟩ := cells_num (M := M64) rfl rfl Tryz.underlying83 ((hf 1 _ rfl).trans e1)
 obtain ⟨a2, g2, b2⟩ := cells_num (M := M64) rfl rfl Tryz.underlying83 ((hf 2 _ rfl).trans e2)
 obtain ⟨a3, g3, b3⟩ := cells_num (M := M64) rfl rfl Tryz.underlying83 ((hf 3 _ rfl).trans e3)
 obtain ⟨a4, a4', g4⟩ := cells_Proof2 ((hf 4 _ rfl).trans e4)
 obtain ⟨a5, a5', g5⟩ := cells_Proof2 ((hf 5 _ rfl).trans e5)
 obtain ⟨a6, a6', g6⟩ := cells_Proof2 ((hf 6 _ rfl).trans e6)
 have d0 : (cs.drop 0).take 1 = [.int .u64 (a0 : Int)] := g0
 have d1 : (cs.drop 1).take 1 = [.int .u64 (a1 : Int)] := g1
 have d2 : (cs.drop 2).take 1 = [.int .u64 (a2 : Int)] := g2
 have d3 : (cs.drop 3).take 1 = [.int .u64 (a3 : Int)] := g3
 have d4 : (cs.drop 4).take 2 = [.int .u64 (a4 : Int), .int .u64 (a4' : Int)] := g4
 have d5 : (cs.drop 6).take 2 = [.int .u64 (a5 : Int), .int .u64 (a5' : Int)] := g5
 have d6 : (cs.drop 8).take 2 = [.int .u64 (a6 : Int), .int .u64 (a6' : Int)] := g6
 match cs, hl with
 | [c0, c1, c2, c3, c4, c5, c6, c7, c8, c9], _ =>
   simp only [List.drop_zero, List.drop_succ_cons, List.take_succ_cons, List.take_zero, List.cons.injEq, and_true] at d0 d1 d2 d3 d4 d5 d6
   obtain ⟨rfl, rfl⟩ := d4
   obtain ⟨rfl, rfl⟩ := d5
   obtain ⟨rfl, rfl⟩ := d6
   subst d0; subst d1; subst d2; subst d3
   refine ⟨a3, rfl, fun u hu => ?_, rfl, b3⟩
   simp only [List.mem_cons, List.not_mem_nil, or_false] at hu
   rcases hu with rfl | rfl | rfl | rfl | rfl | rfl | rfl | rfl | rfl | rfl <;> rfl
theorem cells_MAct {fuel : Nat} {cs : List Value} {x : DataW H × List MemPlace} (h : DataW.trod enc Tryz.prog w base spare held fuel 45 cs = some x) : ∃ p : MAct, RMAct (fun _ => False) w cs p := by
 obtain ⟨xs, n, _, _, hl, hlen, hf⟩ := DataW.trod_struct Tryz.underlying45 h
 have hl : cs.length = 42 := by rw [hl]; kernel_rfl
 have hlen : xs.length = 8 := hlen
 obtain ⟨x0, e0⟩ := Cod.some_of (l := xs) (i := 0) (by omega)
 obtain ⟨x1, e1⟩ := Cod.some_of (l := xs) (i := 1) (by omega)
 obtain ⟨x2, e2⟩ := Cod.some_of (l := xs) (i := 2) (by omega)
 obtain ⟨x3, e3⟩ := Cod.some_of (l := xs) (i := 3) (by omega)
 obtain ⟨x4, e4⟩ := Cod.some_of (l := xs) (i := 4) (by omega)
 obtain ⟨x5, e5⟩ := Cod.some_of (l := xs) (i := 5) (by omega)
 obtain ⟨x6, e6⟩ := Cod.some_of (l := xs) (i := 6) (by omega)
 obtain ⟨x7, e7⟩ := Cod.some_of (l := xs) (i := 7) (by omega)
 obtain ⟨a0, g0, b0⟩ := cells_int Tryz.underlying3 ((hf 0 _ rfl).trans e0)
 obtain ⟨a1, g1, b1⟩ := cells_int Tryz.underlying3 ((hf 1 _ rfl).trans e1)
 obtain ⟨xb, vi, vl, g2, hI, hL, ho, h4, h5, h6⟩ := Cod.cells_Batch ((hf 2 _ rfl).trans e2)
 obtain ⟨aP, cP, ps, g3, hP, hPc⟩ := cells_els (R := RPub) (sz := 10) Tryz.underlying40 (by kernel_rfl) (fun h => cells_Public h) ((hf 3 _ rfl).trans e3)
 obtain ⟨aF, cF, fs, g4, hF, _, _⟩ := cells_ints Tryz.underlying41 Tryz.underlying3 (by kernel_rfl) ((hf 4 _ rfl).trans e4)
 obtain ⟨k, g5, b5⟩ := cells_key (n := 32) Tryz.underlying43 Tryz.underlying5 (by kernel_rfl) (by kernel_rfl) ((hf 5 _ rfl).trans e5)
 obtain ⟨a6, g6, b6⟩ := cells_int Tryz.underlying3 ((hf 6 _ rfl).trans e6)
 obtain ⟨a7, g7, b7⟩ := cells_int Tryz.underlying3 ((hf 7 _ rfl).trans e7)
 have d0 : (cs.drop 0).take 1 = [.int .i64 a0] := g0
 have d1 : (cs.drop 1).take 1 = [.int .i64 a1] := g1
 have d2 : (cs.drop 2).take 4 = batC xb vi vl := g2
 have d3 : (cs.drop 6).take 1 = [.slice aP ps.length cP] := g3
 have d4 : (cs.drop 7).take 1 = [.slice aF fs.length cF] := g4
 have d5 : (cs.drop 8).take 32 = k.map byteV := g5
 have d6 : (cs.drop 40).take 1 = [.int .i64 a6] := g6
 have d7 : (cs.drop 41).take 1 = [.int .i64 a7] := g7
 have hle := hP.le
 refine ⟨⟨a0, a1, xb, ps, fs, k, a6, a7⟩, vi, vl, .slice aP ps.length cP, .slice aF fs.length cF, ?_, hI, hL, ⟨aP, cP, rfl, hP⟩, ⟨aF, cF, rfl, hF, fun _ _ _ h => h⟩, ⟨ho, b1, b5, b6, b7, h4, h5, h6, by show ps.length ≤ _; omega⟩⟩
 have e : cs = (cs.drop 0).take 1 ++ ((cs.drop 1).take 1 ++ ((cs.drop 2).take 4 ++ ((cs.drop 6).take 1 ++ ((cs.drop 7).take 1 ++ ((cs.drop 8).take 32 ++ ((cs.drop 40).take 1 ++ (cs.drop 41).take 1)))))) := by
   have t7 : (cs.drop 41).take 1 = cs.drop 41 := List.take_of_length_le (by rw [List.length_drop]; omega)
   have t6 : (cs.drop 40).take 1 ++ cs.drop 41 = cs.drop 40 := by have := List.take_append_drop 1 (cs.drop 40); rwa [List.drop_drop] at this
   have t5 : (cs.drop 8).take 32 ++ cs.drop 40 = cs.drop 8 := by have := List.take_append_drop 32 (cs.drop 8); rwa [List.drop_drop] at this
   have t4 : (cs.drop 7).take 1 ++ cs.drop 8 = cs.drop 7 := by have := List.take_append_drop 1 (cs.drop 7); rwa [List.drop_drop] at this
   have t3 : (cs.drop 6).take 1 ++ cs.drop 7 = cs.drop 6 := by have := List.take_append_drop 1 (cs.drop 6); rwa [List.drop_drop] at this
   have t2 : (cs.drop 2).take 4 ++ cs.drop 6 = cs.drop 2 := by have := List.take_append_drop 4 (cs.drop 2); rwa [List.drop_drop] at this
   have t1 : (cs.drop 1).take 1 ++ cs.drop 2 = cs.drop 1 := by have := List.take_append_drop 1 (cs.drop 1); rwa [List.drop_drop] at this
   have t0 : (cs.drop 0).take 1 ++ cs.drop 1 = cs := by rw [List.drop_zero]; exact List.take_append_drop 1 cs
   rw [t7, t6, t5, t4, t3, t2, t1, t0]
 rw [e, d0, d1, d2, d3, d4, d5, d6, d7]
 rfl
theorem open_MActs {r : Reach} {b0 : Nat} {v : Value} {d : DataW H} {ps : List MemPlace} (hval : Value.okWide Tryz.prog w r b0 23 v) (hd : DataW.Trod enc Tryz.prog w base spare held 23 v d ps) : ∃ ao c, ∃ es : List MAct, v = .slice ao es.length c ∧ Els (fun _ => False) w 42 RMAct ao c es ∧ es.length ≤ 9223372036854775807 := by
 obtain ⟨a, len, cap, rfl⟩ := okWide_slice Tryz.underlying23 hval
 obtain ⟨fuel, hf⟩ := hd
 obtain ⟨ao, c, es, e, hE, hc⟩ := cells_els (R := RMAct) (sz := 42) Tryz.underlying23 (by kernel_rfl) (fun h => cells_MAct h) hf
 simp [Value.cells] at e
 obtain ⟨rfl, rfl, rfl⟩ := e
 exact ⟨_, _, es, rfl, hE, by have := hE.le; omega⟩
end
end Go.Proofs.YthiijdbiikljpaaGreat.Mbx
namespace Go.Proofs.YthiijdbiikljpaaGreat.KW
open Go Go.RowKit
set_option linter.unusedVariables false
set_option linter.unusedSimpArgs false
def Grew (e sz : Nat) (v v' : Value) (n m : Nat) (news : List Value) (w w' : World) : Prop :=
  (∃ g cap cur, v = .slice (some ⟨g, 0, none⟩) n cap ∧ w.heap[g]? = some (.cells cur e (0, 0)) ∧ n + m ≤ cap ∧ cur.size = cap * sz ∧ v' = .slice (some ⟨g, 0, none⟩) (n + m) cap ∧ w' = w.setRow g (cur.toList.take (n * sz) ++ news ++ cur.toList.drop (n * sz + news.length)).toArray) ∨
  (Ext w w' ∧ (v' = v ∨ ∃ k, v'.ownBlock = some k ∧ w.heap.size ≤ k))
structure GP (n0 e sz mn : Nat) (S : Nat → Prop) (P : List Value) (a b : World) : Prop where
  os : b.os = a.os
  tape : b.tape = a.tape
  output : b.output = a.output
  size : a.heap.size ≤ b.heap.size
  block : ∀ k, k < a.heap.size → ¬ S k → (n0 ≤ k → ∀ cs f, a.heap[k]? = some (.cells cs e f) → cs.size < mn) → b.heap[k]? = a.heap[k]?
  rows : ∀ base v n zs, zs <+: P → a.ownsRow base e sz v n zs → b.ownsRow base e sz v n zs
theorem GP.ext {n0 e sz mn : Nat} {S : Nat → Prop} {P : List Value} (a b : World) (h : Ext a b) : GP n0 e sz mn S P a b :=
 ⟨h.os, h.tape, h.output, h.size, fun k hk _ _ => h.block k hk fun c => c, fun base v n zs _ ho => ownsRow_ext ho h⟩
theorem GP.trans {n0 e sz mn : Nat} {S : Nat → Prop} {P : List Value} (a b c : World) (h : GP n0 e sz mn S P a b) (g : GP n0 e sz mn S P b c) : GP n0 e sz mn S P a c :=
 ⟨g.os.trans h.os, g.tape.trans h.tape, g.output.trans h.output, Nat.le_trans h.size g.size, fun k hk hs hn => by
   have h1 := h.block k hk hs hn
   exact (g.block k (Nat.lt_of_lt_of_le hk h.size) hs (fun h0 cs f hc => hn h0 cs f (by rw [← h1]; exact hc))).trans h1,
   fun base v n zs hp ho => g.rows base v n zs hp (h.rows base v n zs hp ho)⟩
theorem GP.chg {n0 e sz mn : Nat} {S : Nat → Prop} {P : List Value} {a b : World} (h : GP n0 e sz mn S P a b) (h0 : a.heap.size ≤ n0) : Chg S a b :=
 ⟨h.os, h.tape, h.output, h.size, fun k hk hs => h.block k hk hs fun c => by omega⟩
theorem GP.bkOld {n0 e sz mn : Nat} {S : Nat → Prop} {P : List Value} {a b : World} (h : GP n0 e sz mn S P a b) {g : Nat} {cs : List Value} (hb : Bk a g cs) (h0 : g < n0) (hs : ¬ S g) : Bk b g cs := by
 have hl := hb.lt
 obtain ⟨t, hb⟩ := hb
 exact ⟨t, (h.block g hl hs fun c => by omega).trans hb⟩
theorem GP.grew {n0 e sz mn base n m : Nat} {S : Nat → Prop} {P cs news : List Value} {v v' : Value} {w w' : World} (hg : Grew e sz v v' n m news w w') (ho : w.ownsRow base e sz v n cs) (hP : cs ++ news <+: P) (hl : news.length = m * sz) (hS : ∀ k, v.ownBlock = some k → S k ∨ (n0 ≤ k ∧ mn ≤ (n + m) * sz)) : GP n0 e sz mn S P w w' := by
 rcases hg with ⟨g, cap, cur, rfl, hg, hroom, hcs, rfl, rfl⟩ | ⟨hX, _⟩
 refine ⟨rfl, rfl, rfl, by simp [World.setRow], ?_, ?_⟩
 intro k hk hs hn
 refine setRow_other w g k _ fun e => ?_
 subst e
 rcases hS k rfl with h | ⟨h1, h2⟩
 exact hs h
 have h3 := hn h1 _ _ hg
 have h4 : (n + m) * sz ≤ cap * sz := Nat.mul_le_mul_right _ hroom
 omega
 intro base2 v2 n2 zs hz h2
 refine ⟨h2.1, ?_⟩
 rcases h2.2 with ⟨rfl, h0⟩ | ⟨g2, cap2, cur2, rfl, hb2, hg2, hnc2, hcm2, hcs2, htake2⟩
 exact .inl ⟨rfl, h0⟩
 by_cases hgg : g2 = g
 subst hgg
 rw [hg] at hg2
 injection hg2 with hg2
 injection hg2 with hg2
 subst hg2
 have htake : cur.toList.take (n * sz) = cs := by
   rcases ho.2 with ⟨h1, _⟩ | ⟨g3, cap3, cur3, hv3, _, hg3, _, _, _, ht3⟩
   cases h1
   injection hv3 with h1 h2 h3
   injection h1 with h1
   injection h1 with h1
   subst h1
   rw [hg] at hg3
   injection hg3 with hg3
   injection hg3 with hg3
   subst hg3
   exact ht3
 have hfit : n * sz + m * sz ≤ cur.size := by rw [hcs, ← Nat.add_mul]; exact Nat.mul_le_mul_right _ hroom
 refine .inr ⟨g2, cap2, _, rfl, hb2, setRow_heap w g2 cur _ e _ hg, hnc2, hcm2, ?_, ?_⟩
 rw [← hcs2]
 simp only [List.size_toArray, List.length_append, List.length_take, List.length_drop, Array.length_toList]
 omega
 apply List.ext_getElem?
 intro i
 have hzi : ∀ i, i < n2 * sz → zs[i]? = cur.toList[i]? := fun i hi => by rw [← htake2, List.getElem?_take, if_pos hi]
 have hzl : zs.length = n2 * sz := h2.1
 have hcl : cs.length = n * sz := ho.1
 rw [List.getElem?_take]
 by_cases hi : i < n2 * sz
 rw [if_pos hi]
 have hzP : zs[i]? = P[i]? := by
   obtain ⟨r, rfl⟩ := hz
   rw [List.getElem?_append_left (by omega)]
 by_cases h3 : i < n * sz
 rw [List.append_assoc, List.getElem?_append_left (by simp; omega), List.getElem?_take, if_pos h3, hzi i hi]
 by_cases h4 : i < n * sz + m * sz
 rw [List.getElem?_append_left (by simp; omega), htake, hzP]
 obtain ⟨r, rfl⟩ := hP
 rw [List.getElem?_append_left (l₂ := r) (by rw [List.length_append]; omega)]
 rw [List.getElem?_append_right (by simp; omega), hzi i hi, List.getElem?_drop]
 congr 1
 simp only [List.length_append, List.length_take, Array.length_toList]
 omega
 rw [if_neg hi]
 exact (List.getElem?_eq_none (by omega)).symm
 exact .inr ⟨g2, cap2, cur2, rfl, hb2, (setRow_other w g g2 _ hgg).trans hg2, hnc2, hcm2, hcs2, htake2⟩
 exact GP.ext _ _ hX
theorem Grew.own {e sz n m : Nat} {v v' : Value} {news : List Value} {w w' : World} (h : Grew e sz v v' n m news w w') : ∀ k, v'.ownBlock = some k → v.ownBlock = some k ∨ w.heap.size ≤ k := by
 intro k hk
 rcases h with ⟨g, cap, cur, rfl, hg, hroom, hcs, rfl, rfl⟩ | ⟨hX, h⟩
 exact .inl hk
 rcases h with rfl | ⟨k', h1, h2⟩
 exact .inl hk
 rw [h1] at hk; obtain rfl := Option.some.inj hk; exact .inr h2
theorem append_grew {P : Program} (w : World) {e sz bytes base n m c : Nat} {t ty : TypeId} {z v : Value} {ad : Addr} {cs news : List Value} (hE : Elem P e sz bytes z) (hT : P.underlying t = some (.slice e))
   (hown : w.ownsRow base e sz v n cs) (hl : news.length = m * sz) (hc : Cells w ad news) (h1 : ∀ u ∈ news, u.oneCell' = true) (hlen : (n + m) * bytes ≤ 140737488355328) (hlen2 : n + m ≤ 140737488355328) (hbase : base ≤ w.heap.size) :
   ∃ v' w', (Builtin.append_ #[t, t] ty #[v, .slice (some ad) m c]).run P w = .ok v' w' ∧ w'.ownsRow base e sz v' (n + m) (cs ++ news) ∧ Grew e sz v v' n m news w w' := by
 obtain ⟨v', w', hr, h2, h3, h4⟩ := append_own (P := P) w (ty := ty) (c := c) hE hT hown hl hc h1 hlen hlen2 hbase
 refine ⟨v', w', hr, h2, ?_⟩
 obtain ⟨i, hi, hz, hsz, hby⟩ := hE.out
 rcases hown.2 with ⟨rfl, rfl⟩ | ⟨g, cap, cur, rfl, hbg, hg, hnc, hcm, hcs, htake⟩
 refine .inr ⟨(Chg.of_grown h3).mono (fun k hk => by cases hk), ?_⟩
 rcases h4 with h4 | h4
 left
 rcases h2.2 with ⟨rfl, _⟩ | ⟨g', cap', cur', rfl, _⟩
 rfl
 cases h4
 exact .inr h4
 by_cases hroom : n + m ≤ cap
 subst hsz
 have hfit : n * i.size + news.length ≤ cur.size := by rw [hl, hcs, ← Nat.add_mul]; exact Nat.mul_le_mul_right _ hroom
 have hr2 := run_append_room (P := P) w t ty e i hT hi g n cap cur hg ad m c news hl hc h1 hroom hfit
 rw [hr] at hr2
 obtain ⟨rfl, rfl⟩ := Result.ok.inj hr2
 exact .inl ⟨g, cap, cur, rfl, hg, hroom, hcs, rfl, rfl⟩
 have hX : Ext w w' := by
   subst hsz; subst hby
   have holds : ∀ j u, cs[j]? = some u → w.cell? ((⟨g, 0, none⟩ : Addr).add j) = some u := hown.cells (g := g) rfl
   have hr2 := run_append_grow (P := P) w t ty e i z hT hi hz ⟨g, 0, none⟩ n cap cs hown.1 holds ad m c news hl hc (by omega) (by omega) (growslice_fits (by omega) hlen)
   rw [hr] at hr2
   obtain ⟨rfl, rfl⟩ := Result.ok.inj hr2
   exact (Ext.drew w).ext (Ext.alloc w.drew _)
 refine .inr ⟨hX, ?_⟩
 rcases h4 with h4 | h4
 exfalso
 subst hsz; subst hby
 have holds : ∀ j u, cs[j]? = some u → w.cell? ((⟨g, 0, none⟩ : Addr).add j) = some u := hown.cells (g := g) rfl
 have hr2 := run_append_grow (P := P) w t ty e i z hT hi hz ⟨g, 0, none⟩ n cap cs hown.1 holds ad m c news hl hc (by omega) (by omega) (growslice_fits (by omega) hlen)
 rw [hr] at hr2
 obtain ⟨rfl, rfl⟩ := Result.ok.inj hr2
 have h5 : w.heap.size = g := Option.some.inj h4
 have := (Array.getElem?_eq_some_iff.1 hg).1
 omega
 exact .inr h4
section
variable {P : Program} {N : Nat} {Q : Exit → Act → World → Prop} {l : Env} {w : World} {ops : Array Oper} {rest : List Oper} {d : Tmp} {ty : TypeId} {pos : String} {aft : Array Edge}
variable {x y : Operand} {T T' : TypeId}
theorem W.appendG {e sz bytes base n m c : Nat} {z v : Value} {ao : Option Addr} {cs news : List Value} (hE : Elem P e sz bytes z) (hT : P.underlying T = some (.slice e))
   (hx : ev l x = some v) (hy : ev l y = some (.slice ao m c)) (hown : w.ownsRow base e sz v n cs) (hs : Sl w ao m c sz news) (h1 : ∀ u ∈ news, u.oneCell' = true) (hlen : (n + m) * bytes ≤ 140737488355328) (hlen2 : n + m ≤ 140737488355328) (hbase : base ≤ w.heap.size) (hN : Nat.blt d N = true)
   (next : ∀ v' w', w'.ownsRow base e sz v' (n + m) (cs ++ news) → Grew e sz v v' n m news w w' → W P N ops Q rest ((d, v') :: l) w') :
   W P N ops Q (⟨some d, .call ⟨.builtin .append, #[x, y], #[T, T]⟩, ty, pos, aft, none⟩ :: rest) l w := by
 obtain ⟨i, hi, hz, hsz, hby⟩ := hE.out
 cases ao with
 | none =>
   have hc0 := hs.nil rfl
   have hm0 : m = 0 := by have := hs.le; omega
   subst hc0; subst hm0
   have hnews : news = [] := List.eq_nil_of_length_eq_zero (by simpa using hs.len)
   subst hnews
   have hrun := run_append_owned_none (P := P) w base T ty e i sz hT hi v n cs hown
   refine W.op (v := v) (w' := w) rfl rfl hN (fun a ha => ?_) (next v w (by simpa using hown) (.inr ⟨Ext.refl _, .inl rfl⟩))
   simp only [execOp, resolve, invoke, builtin, Sem.run_bind, Sem.run_pure, Result.andThen_ok, List.map_toArray, List.map_cons, List.map_nil, ha.ev hx, ha.ev hy, hrun]
 | some ad =>
   have hc := hs.at_ ad rfl
   obtain ⟨v', w', hrun, h2, h3⟩ := append_grew (P := P) w (ty := ty) (c := c) hE hT hown hs.len hc h1 hlen hlen2 hbase
   refine W.op (v := v') (w' := w') rfl rfl hN (fun a ha => ?_) (next v' w' h2 h3)
   simp only [execOp, resolve, invoke, builtin, Sem.run_bind, Sem.run_pure, Result.andThen_ok, List.map_toArray, List.map_cons, List.map_nil, ha.ev hx, ha.ev hy, hrun]
theorem W.appendGB {e base c : Nat} {z v : Value} {ao : Option Addr} {xs ys : List UInt8} (hE : Elem P e 1 1 z) (hT : P.underlying T = some (.slice e))
   (hx : ev l x = some v) (hy : ev l y = some (.slice ao ys.length c)) (ho : Ow w base e v xs) (hs : Bs w ao c ys) (hlen : xs.length + ys.length ≤ 70368744177664) (hbase : base ≤ w.heap.size) (hN : Nat.blt d N = true)
   (next : ∀ v' w', Ow w' base e v' (xs ++ ys) → Grew e 1 v v' xs.length ys.length (ys.map byteV) w w' → W P N ops Q rest ((d, v') :: l) w') :
   W P N ops Q (⟨some d, .call ⟨.builtin .append, #[x, y], #[T, T]⟩, ty, pos, aft, none⟩ :: rest) l w :=
 W.appendG hE hT hx hy ho hs (bytes_oneCell ys) (by omega) (by omega) hbase hN fun v' w' h1 h2 => next v' w' (by
   show w'.ownsRow base e 1 v' (xs ++ ys).length ((xs ++ ys).map byteV)
   rw [List.length_append, List.map_append]; exact h1) h2
theorem GP.grewB {n0 e mn base : Nat} {S : Nat → Prop} {P xs ys : List UInt8} {v v' : Value} {w w' : World} (hg : Grew e 1 v v' xs.length ys.length (ys.map byteV) w w') (ho : Ow w base e v xs) (hP : xs ++ ys <+: P) (hS : ∀ k, v.ownBlock = some k → S k ∨ (n0 ≤ k ∧ mn ≤ xs.length + ys.length)) : GP n0 e 1 mn S (P.map byteV) w w' :=
 GP.grew hg ho (by rw [← List.map_append]; exact hP.map _) (by simp) (fun k hk => (hS k hk).imp id fun h => ⟨h.1, by omega⟩)
theorem GP.rowB {n0 e mn base : Nat} {S : Nat → Prop} {P xs : List UInt8} {v : Value} {a b : World} (h : GP n0 e 1 mn S (P.map byteV) a b) (ho : Ow a base e v xs) (hP : xs <+: P) : Ow b base e v xs :=
 h.rows base v xs.length _ (hP.map _) ho
end
end Go.Proofs.YthiijdbiikljpaaGreat.KW
namespace Go.Proofs.YthiijdbiikljpaaGreat.Cod
open Go Go.RowKit Go.Proofs.YthiijdbiikljpaaGreat.KW Go.Proofs.YthiijdbiikljpaaGreat.Words Go.Proofs.YthiijdbiikljpaaGreat.Grp
set_option linter.unusedVariables false
set_option linter.unusedSimpArgs false
set_option maxRecDepth 100000
structure Rdr (w : World) (g : Nat) (q : Option Addr) (c : Nat) (b : List UInt8) (s : St) : Prop where
  out : ∃ p e : Nat, Bk w g [.slice q b.length c, .int .i64 (p : Int), .int .i64 (e : Int)] ∧ p ≤ b.length ∧ e ≤ 100 ∧ s = (e, if e = 0 then b.drop p else [])
  bs : Bs w q c b
  far : ∀ ad, q = some ad → b ≠ [] → ad.block ≠ g
structure RdP (w : World) (g : Nat) (q : Option Addr) (c : Nat) (b : List UInt8) (s : St) (w' : World) : Prop where
  rdr : Rdr w' g q c b s
  chg : Chg (fun k => k = g) w w'
theorem Rdr.ext {w w' : World} {g : Nat} {q : Option Addr} {c : Nat} {b : List UInt8} {s : St} (h : Rdr w g q c b s) (x : Ext w w') : Rdr w' g q c b s := by
 obtain ⟨p, e, h1, h2⟩ := h.out
 exact ⟨⟨p, e, h1.ext x, h2⟩, h.bs.ext x, h.far⟩
theorem Rdr.refl {w : World} {g : Nat} {q : Option Addr} {c : Nat} {b : List UInt8} {s : St} (h : Rdr w g q c b s) : RdP w g q c b s w := ⟨h, Chg.refl _ _⟩
theorem RdP.trans {w w1 w2 : World} {g : Nat} {q : Option Addr} {c : Nat} {b : List UInt8} {s t : St} (h : RdP w g q c b s w1) (k : RdP w1 g q c b t w2) : RdP w g q c b t w2 := ⟨k.rdr, h.chg.trans k.chg⟩
theorem Rdr.lt {w : World} {g : Nat} {q : Option Addr} {c : Nat} {b : List UInt8} {s : St} (h : Rdr w g q c b s) : g < w.heap.size := by obtain ⟨p, e, h1, _⟩ := h.out; exact h1.lt
theorem Rdr.set {w w' : World} {g : Nat} {q : Option Addr} {c : Nat} {b : List UInt8} {s : St} (h : Rdr w g q c b s) {p e : Nat} (hc : Chg (fun k => k = g) w w') (hb : Bk w' g [.slice q b.length c, .int .i64 (p : Int), .int .i64 (e : Int)]) (hp : p ≤ b.length) (he : e ≤ 100) : RdP w g q c b (e, if e = 0 then b.drop p else []) w' :=
 ⟨⟨⟨p, e, hb, hp, he, rfl⟩, Sl.chg h.bs hc (fun ad ea hn => h.far ad ea (by rintro rfl; exact hn rfl)), h.far⟩, hc⟩
theorem RdP.old {w0 w w' : World} {g : Nat} {q : Option Addr} {c : Nat} {b : List UInt8} {s : St} (h : RdP w g q c b s w') (hg : w0.heap.size ≤ g) (hX : Ext w0 w) : Ext w0 w' := hX.news h.chg fun k hk => Or.inr (by omega)
theorem Rdr.mk' {w : World} {g : Nat} {q : Option Addr} {c : Nat} {b : List UInt8} (hb : Bk w g [.slice q b.length c, .int .i64 0, .int .i64 0]) (hs : Bs w q c b) (hf : ∀ ad, q = some ad → b ≠ [] → ad.block ≠ g) : Rdr w g q c b (0, b) := ⟨⟨0, 0, hb, Nat.zero_le _, by decide, rfl⟩, hs, hf⟩
theorem getE8 (b : List UInt8) (p : Nat) : getE b (p : Int) 8 = 0 ↔ p + 8 ≤ b.length := by rw [getE_0]; omega
theorem getV8 {b : List UInt8} {p : Nat} (h : p + 8 ≤ b.length) : getV b (p : Int) 8 = beNat ((b.drop p).take 8) := by unfold getV; rw [if_pos ((getE8 b p).2 h)]; simp
theorem numS_at {b : List UInt8} {p : Nat} (h : p + 8 ≤ b.length) : numS (0, b.drop p) = (beNat ((b.drop p).take 8), (0, b.drop (p + 8))) := by
 unfold numS
 rw [if_pos rfl, if_neg (by rw [List.length_drop]; omega)]
 simp only [List.drop_drop]
theorem numS_short {b : List UInt8} {p : Nat} (h : ¬ p + 8 ≤ b.length) : numS (0, b.drop p) = (0, (4, [])) := by
 unfold numS
 rw [if_pos rfl, if_pos (by show (b.drop p).length < 8; rw [List.length_drop]; omega)]
theorem takeS_at {b : List UInt8} {p n : Nat} (hp : p ≤ b.length) (h : p + n ≤ b.length) : takeS n (0, b.drop p) = ((b.drop p).take n, (0, b.drop (p + n))) := by
 unfold takeS
 rw [if_pos rfl, if_neg (by rw [List.length_drop]; omega)]
 simp only [List.drop_drop]
theorem takeS_short {b : List UInt8} {p n : Nat} (hp : p ≤ b.length) (h : ¬ p + n ≤ b.length) : takeS n (0, b.drop p) = ([], (4, [])) := by
 unfold takeS
 rw [if_pos rfl, if_pos (by show (b.drop p).length < n; rw [List.length_drop]; omega)]
theorem failS_cases (e0 e : Nat) (r : List UInt8) (he : e0 ≠ 0) : failS e0 (e, if e = 0 then r else []) = (if e = 0 then e0 else e, if (if e = 0 then e0 else e) = 0 then r else []) := by
 unfold failS
 by_cases h : e = 0
 subst h; simp [he]
 simp [h]
theorem fail_ok (g : Nat) (q : Option Addr) (c : Nat) (b : List UInt8) (s : St) (e0 : Nat) (w : World) (h : Rdr w g q c b s) (h0 : e0 ≠ 0) (h1 : e0 ≤ 100) :
   Ct Tryz.prog 110 #[.pointer (some ⟨g, 0, none⟩), .int .i64 (e0 : Int)] w (fun v w' => v = .tuple #[] ∧ RdP w g q c b (failS e0 s) w') := by
 refine Ct.enter [(0, .pointer (some ⟨g, 0, none⟩)), (1, .int .i64 (e0 : Int))] Tryz.func110 rfl rfl rfl rfl ?_
 obtain ⟨p, e, hB, hp, he, rfl⟩ := h.out
 have hfc := failS_cases e0 e (b.drop p) h0
 refine C.seq (C.region (W.move rfl rfl (W.nilCheck rfl rfl (W.fieldB (off := 2) (size := 1) (t := 29) (Fld.of (by kernel_rfl)) rfl rfl rfl ?_))))
 refine W.loadB rfl Tryz.underlying29 rfl (by assumption) rfl rfl ?_
 refine W.eqlI rfl rfl rfl (W.nil (At.thenCode ?_))
 refine C.condD rfl (fun c8 => ?_) (fun c8 => ?_)
 refine C.region (W.move rfl rfl (W.move rfl rfl (W.nilCheck rfl rfl (W.fieldB (off := 2) (size := 1) (t := 29) (Fld.of (by kernel_rfl)) rfl rfl rfl ?_))))
 refine W.store1 rfl rfl rfl hB (by simp) (by kernel_rfl) ?_
 intro w1 hc1 hB1
 refine W.nil ?_
 refine At.end0 Tryz.results110 ?_
 first
 | (refine ⟨rfl, ?_⟩
    rw [hfc, if_pos (by omega)]
    exact h.set hc1 hB1 hp h1)
 | (refine ⟨rfl, ?_⟩
    rw [hfc, if_neg (by omega)]
    exact h.refl)
 refine C.skip ?_
 refine At.end0 Tryz.results110 ?_
 first
 | (refine ⟨rfl, ?_⟩
    rw [hfc, if_pos (by omega)]
    exact h.set hc1 hB1 hp h1)
 | (refine ⟨rfl, ?_⟩
    rw [hfc, if_neg (by omega)]
    exact h.refl)
theorem number_ok (g : Nat) (q : Option Addr) (c : Nat) (b : List UInt8) (s : St) (w : World) (h : Rdr w g q c b s) (hlen : b.length ≤ 1099511627776) :
   Ct Tryz.prog 94 #[.pointer (some ⟨g, 0, none⟩)] w (fun v w' => v = .int .u64 ((numS s).1 : Int) ∧ RdP w g q c b (numS s).2 w') := by
 refine Ct.enter [(0, .pointer (some ⟨g, 0, none⟩))] Tryz.func94 rfl rfl rfl rfl ?_
 obtain ⟨p, e, hB, hp, he, rfl⟩ := h.out
 refine C.seq (C.region (W.assign rfl rfl (W.nil (At.thenCode (C.seq (C.seq (C.region (W.move rfl rfl (W.nilCheck rfl rfl (W.fieldB (off := 2) (size := 1) (t := 29) (Fld.of (by kernel_rfl)) rfl rfl rfl ?_))))))))))
 refine W.loadB rfl Tryz.underlying29 rfl (by assumption) rfl rfl ?_
 refine W.neqI rfl rfl rfl (W.nil (At.thenCode ?_))
 refine C.condD rfl (fun c9 => ?_) (fun c9 => ?_)
 refine C.seq (C.region (W.assign rfl rfl (W.nil (At.thenCode (C.ret (At.thenRet ?_))))))
 refine At.ret1 Tryz.results94 rfl ?_
 have hns : numS (e, if e = 0 then b.drop p else []) = (0, (e, if e = 0 then b.drop p else [])) := numS_bad (by show e ≠ 0; omega)
 rw [hns]
 exact ⟨rfl, h.refl⟩
 obtain rfl : e = 0 := by omega
 refine C.skip (At.thenCode (C.seq ?_))
 refine C.regionAny 14 (E_ (.pointer (some ⟨g, 0, none⟩)) :: E_ (.pointer (some ⟨g, 0, none⟩)) :: E_ (.pointer (some ⟨g, 0, none⟩)) :: E_ (.slice q b.length c) :: E_ (.pointer (some ⟨g, 0, none⟩)) :: E_ (.pointer (some ⟨g, 0, none⟩)) :: E_ (.pointer (some ⟨g, 1, none⟩)) :: E_ (.int .i64 (p : Int)) :: E_ (.tuple #[.int .u64 ((getV b (p : Int) 8 : Nat) : Int), .int .i64 (getE b (p : Int) 8)]) :: E_ (.tuple #[.int .u64 ((getV b (p : Int) 8 : Nat) : Int), .int .i64 (getE b (p : Int) 8)]) :: E_ (.int .u64 ((getV b (p : Int) 8 : Nat) : Int)) :: E_ (.int .i64 (getE b (p : Int) 8)) :: E_ (.int .u64 ((getV b (p : Int) 8 : Nat) : Int)) :: E_ (.int .i64 (getE b (p : Int) 8)) :: []) [(0, .pointer (some ⟨g, 0, none⟩))] [] (sc rfl (Sub.nil)) (Sub.nil) (sc rfl (Sub.nil)) (by kernel_rfl) rfl rfl rfl (sN (sN (sN (sN (sN (sN (sN (sN (sN (sN (sN (sN (sN (sN (trivial))))))))))))))) ?_ ?_
 refine And.intro (mB rfl rfl (fun _ => rfl) rfl) ?_
 refine And.intro ?_ ?_
 intro L_ w3 hX_ hs_ hf_ hd_
 obtain ⟨_, e0, rfl⟩ := hd_ 0 rfl
 exact W.s1 (e0 _ rfl) (W.nilCheck rfl rfl (W.e0 rfl))
 refine And.intro ?_ ?_
 intro L_ w3 hX_ hs_ hf_ hd_
 obtain ⟨_, e1, rfl⟩ := hd_ 1 rfl
 exact W.s1 (e1 _ rfl) (W.fieldB (off := 0) (size := 1) (t := 22) (Fld.of (by kernel_rfl)) rfl rfl rfl (W.e0 rfl))
 refine And.intro ?_ ?_
 intro L_ w3 hX_ hs_ hf_ hd_
 obtain ⟨_, e2, rfl⟩ := hd_ 2 rfl
 refine W.s1 (e2 _ rfl) ?_
 refine W.loadB rfl Tryz.underlying22 rfl (Bk.ext (by assumption) hX_) rfl rfl ?_
 exact W.e0 rfl
 refine And.intro (mB rfl rfl (fun _ => rfl) rfl) ?_
 refine And.intro ?_ ?_
 intro L_ w3 hX_ hs_ hf_ hd_
 obtain ⟨_, e4, rfl⟩ := hd_ 4 rfl
 exact W.s1 (e4 _ rfl) (W.nilCheck rfl rfl (W.e0 rfl))
 refine And.intro ?_ ?_
 intro L_ w3 hX_ hs_ hf_ hd_
 obtain ⟨_, e5, rfl⟩ := hd_ 5 rfl
 exact W.s1 (e5 _ rfl) (W.fieldB (off := 1) (size := 1) (t := 3) (Fld.of (by kernel_rfl)) rfl rfl rfl (W.e0 rfl))
 refine And.intro ?_ ?_
 intro L_ w3 hX_ hs_ hf_ hd_
 obtain ⟨_, e6, rfl⟩ := hd_ 6 rfl
 refine W.s1 (e6 _ rfl) ?_
 refine W.loadB rfl Tryz.underlying3 rfl (Bk.ext (by assumption) hX_) rfl rfl ?_
 exact W.e0 rfl
 refine And.intro ?_ ?_
 intro L_ w3 hX_ hs_ hf_ hd_
 obtain ⟨_, e3, rfl⟩ := hd_ 3 rfl
 obtain ⟨_, e7, rfl⟩ := hd_ 7 rfl
 refine W.s2 (e3 _ rfl) (e7 _ rfl) ?_
 refine W.call Tryz.call59 rfl (Words.Get64_ok q c b (p : Int) _ (h.bs.ext hX_) hlen (by omega)) rfl ?_
 rintro v19 w19 ⟨rfl, rfl⟩
 exact W.e0 rfl
 refine And.intro ?_ ?_
 intro L_ w3 hX_ hs_ hf_ hd_
 obtain ⟨_, e8, rfl⟩ := hd_ 8 rfl
 exact W.s1 (e8 _ rfl) (W.move rfl rfl (W.e0 rfl))
 refine And.intro ?_ ?_
 intro L_ w3 hX_ hs_ hf_ hd_
 obtain ⟨_, e9, rfl⟩ := hd_ 9 rfl
 exact W.s1 (e9 _ rfl) (W.extract rfl rfl rfl (W.e0 rfl))
 refine And.intro ?_ ?_
 intro L_ w3 hX_ hs_ hf_ hd_
 obtain ⟨_, e9, rfl⟩ := hd_ 9 rfl
 exact W.s1 (e9 _ rfl) (W.extract rfl rfl rfl (W.e0 rfl))
 refine And.intro ?_ ?_
 intro L_ w3 hX_ hs_ hf_ hd_
 obtain ⟨_, e10, rfl⟩ := hd_ 10 rfl
 exact W.s1 (e10 _ rfl) (W.assign rfl rfl (W.e0 rfl))
 refine And.intro ?_ ?_
 intro L_ w3 hX_ hs_ hf_ hd_
 obtain ⟨_, e11, rfl⟩ := hd_ 11 rfl
 exact W.s1 (e11 _ rfl) (W.assign rfl rfl (W.e0 rfl))
 exact trivial
 intro L_ w3 hX3 hs_ hv_
 obtain ⟨_, e12, rfl⟩ := hv_ 12 (by decide)
 obtain ⟨_, e13, rfl⟩ := hv_ 13 (by decide)
 refine W.weaken (l' := [(3, _), (4, _), (0, _)]) (sc (e12 _ rfl) (sc (e13 _ rfl) (sc (hs_ _ _ rfl) (Sub.nil)))) ?_
 refine W.nil (At.thenCode (C.seq (C.seq (C.region (W.move rfl rfl (W.neqI rfl rfl rfl (W.nil (At.thenCode ?_))))))))
 refine C.condD rfl (fun c23 => ?_) (fun c23 => ?_)
 have hns : ¬ p + 8 ≤ b.length := fun hc => c23 ((getE8 b p).2 hc)
 have h3 := h.ext hX3
 refine C.seq (C.region (W.move rfl rfl ?_))
 refine W.call Tryz.call110 rfl (Cod.fail_ok _ _ _ _ _ _ _ (by assumption) (by decide) (by decide)) rfl ?_
 rintro v25 w25 ⟨rfl, hP25⟩
 refine W.nil (At.thenCode (C.seq (C.region (W.assign rfl rfl (W.nil (At.thenCode (C.ret (At.thenRet ?_))))))))
 refine At.ret1 Tryz.results94 rfl ?_
 rw [if_pos rfl, numS_short hns]
 rw [if_pos rfl] at hP25
 refine ⟨rfl, ⟨hP25.rdr, (Chg.mono hX3 fun k hk => hk.elim).trans hP25.chg⟩⟩
 have hns : p + 8 ≤ b.length := (getE8 b p).1 (by omega)
 have h3 := h.ext hX3
 have hB3 := hB.ext hX3
 refine C.skip (At.thenCode (C.seq (C.region (W.move rfl rfl (W.nilCheck rfl rfl (W.fieldB (off := 1) (size := 1) (t := 3) (Fld.of (by kernel_rfl)) rfl rfl rfl ?_))))))
 refine W.loadB rfl Tryz.underlying3 rfl hB3 rfl rfl ?_
 refine W.addI rfl rfl (by omega) rfl ?_
 refine W.nilCheck rfl rfl (W.fieldB (off := 1) (size := 1) (t := 3) (Fld.of (by kernel_rfl)) rfl rfl rfl ?_)
 refine W.store1 rfl rfl rfl hB3 (by simp) (by kernel_rfl) ?_
 intro w7 hc7 hB7
 have hP7 := h3.set (p := p + 8) (e := 0) hc7 (by simpa using hB7) (by omega) (by decide)
 refine W.nil (At.thenCode (C.seq (C.region (W.move rfl rfl (W.assign rfl rfl (W.nil (At.thenCode (C.ret ?_))))))))
 refine At.ret1 Tryz.results94 rfl ?_
 rw [if_pos rfl, numS_at hns]
 refine ⟨by rw [getV8 hns], ⟨by simpa using hP7.rdr, (Chg.mono hX3 fun k hk => hk.elim).trans hP7.chg⟩⟩
theorem rint_ok (g : Nat) (q : Option Addr) (c : Nat) (b : List UInt8) (s : St) (m : Nat) (w : World) (h : Rdr w g q c b s) (hlen : b.length ≤ 1099511627776) (hm : m ≤ 9223372036854775807) :
   Ct Tryz.prog 93 #[.pointer (some ⟨g, 0, none⟩), .int .i64 (m : Int)] w (fun v w' => v = .int .i64 ((intS m s).1 : Int) ∧ RdP w g q c b (intS m s).2 w') := by
 refine Ct.enter [(0, .pointer (some ⟨g, 0, none⟩)), (1, .int .i64 (m : Int))] Tryz.func93 rfl rfl rfl rfl ?_
 refine C.seq (C.region (W.assign rfl rfl (W.nil (At.thenCode (C.seq (C.region (W.move rfl rfl ?_)))))))
 refine W.call Tryz.call94 rfl (Cod.number_ok _ _ _ _ _ _ (by assumption) (by assumption)) rfl ?_
 rintro v7 w7 ⟨rfl, hP7⟩
 have hr7 := hP7.rdr
 have hlt := numS_lt s
 refine W.assign rfl rfl (W.nil (At.thenCode (C.seq (C.seq (C.region (W.move rfl rfl (W.move rfl rfl ?_)))))))
 refine W.convIN (M := 18446744073709551616) rfl Tryz.underlying3 Tryz.underlying83 rfl rfl (by omega) rfl ?_
 refine W.eqv (v' := .int .u64 (m : Int)) (iV (by omega)) ?_
 refine W.gtrU rfl rfl rfl ?_
 refine W.nil (At.thenCode ?_)
 refine C.condD rfl (fun c11 => ?_) (fun c11 => ?_)
 refine C.seq (C.region (W.move rfl rfl ?_))
 refine W.call Tryz.call110 rfl (Cod.fail_ok _ _ _ _ _ _ _ (by assumption) (by decide) (by decide)) rfl ?_
 rintro v13 w13 ⟨rfl, hP13⟩
 refine W.nil (At.thenCode (C.seq (C.region (W.assign rfl rfl (W.nil (At.thenCode (C.ret (At.thenRet ?_))))))))
 refine At.ret1 Tryz.results93 rfl ?_
 have e : intS m s = (0, failS 2 (numS s).2) := by unfold intS; rw [if_pos (by omega)]
 rw [e]
 exact ⟨rfl, hP7.trans hP13⟩
 refine C.skip (At.thenCode (C.seq (C.region (W.move rfl rfl ?_))))
 refine W.convI rfl Tryz.underlying83 Tryz.underlying3 (by omega) rfl ?_
 refine W.assign rfl rfl (W.nil (At.thenCode (C.ret ?_)))
 refine At.ret1 Tryz.results93 rfl ?_
 have e : intS m s = numS s := by unfold intS; rw [if_neg (by omega)]
 rw [e]
 exact ⟨rfl, hP7⟩
def TakeP (g : Nat) (q : Option Addr) (c : Nat) (b : List UInt8) (w : World) (p : List UInt8 × St) : Value → World → Prop := fun v w' => ∃ ao c', v = .slice ao p.1.length c' ∧ NewB w w' ao c' p.1 ∧ RdP w g q c b p.2 w'
theorem bytesA (g : Nat) (q : Option Addr) (c : Nat) (b : List UInt8) (p e n : Nat) (w : World) (h : Rdr w g q c b (e, [])) (hB : Bk w g [.slice q b.length c, .int .i64 (p : Int), .int .i64 (e : Int)]) (he : e ≠ 0) :
   Ct Tryz.prog 97 #[.pointer (some ⟨g, 0, none⟩), .int .i64 (n : Int)] w (TakeP g q c b w ([], (e, []))) := by
 refine Ct.enter [(0, .pointer (some ⟨g, 0, none⟩)), (1, .int .i64 (n : Int))] Tryz.func97 rfl rfl rfl rfl ?_
 refine C.seq (C.region (W.assign rfl rfl (W.nil (At.thenCode (C.seq (C.seq ?_))))))
 refine C.regionAny 19 (E_ (.pointer (some ⟨g, 0, none⟩)) :: E_ (.pointer (some ⟨g, 0, none⟩)) :: E_ (.pointer (some ⟨g, 2, none⟩)) :: E_ (.int .i64 (e : Int)) :: E_ (.bool false) :: E_ (.bool false) :: E_ (undef) :: E_ (undef) :: E_ (undef) :: E_ (undef) :: E_ (undef) :: E_ (undef) :: E_ (undef) :: E_ (undef) :: E_ (undef) :: E_ (undef) :: E_ (undef) :: E_ (undef) :: E_ (.bool false) :: []) [(0, .pointer (some ⟨g, 0, none⟩)), (1, .int .i64 (n : Int))] [] (sc rfl (sc rfl (Sub.nil))) (Sub.nil) (sc rfl (sc rfl (Sub.nil))) (by kernel_rfl) rfl rfl rfl (sN (sN (sN (sN (sN (sN (sN (sN (sN (sN (sN (sN (sN (sN (sN (sN (sN (sN (sN (trivial)))))))))))))))))))) ?_ ?_
 refine And.intro (mB rfl rfl (fun _ => rfl) rfl) ?_
 refine And.intro ?_ ?_
 intro L_ w1 hX_ hs_ hf_ hd_
 obtain ⟨_, e0, rfl⟩ := hd_ 0 rfl
 exact W.s1 (e0 _ rfl) (W.nilCheck rfl rfl (W.e0 rfl))
 refine And.intro ?_ ?_
 intro L_ w1 hX_ hs_ hf_ hd_
 obtain ⟨_, e1, rfl⟩ := hd_ 1 rfl
 exact W.s1 (e1 _ rfl) (W.fieldB (off := 2) (size := 1) (t := 29) (Fld.of (by kernel_rfl)) rfl rfl rfl (W.e0 rfl))
 refine And.intro ?_ ?_
 intro L_ w1 hX_ hs_ hf_ hd_
 obtain ⟨_, e2, rfl⟩ := hd_ 2 rfl
 refine W.s1 (e2 _ rfl) ?_
 refine W.loadB rfl Tryz.underlying29 rfl (Bk.ext (by assumption) hX_) rfl rfl ?_
 exact W.e0 rfl
 refine And.intro ?_ ?_
 intro L_ w1 hX_ hs_ hf_ hd_
 obtain ⟨_, e3, rfl⟩ := hd_ 3 rfl
 refine W.s1 (e3 _ rfl) (W.eqlI rfl rfl rfl ?_)
 refine W.eqv (bF (by omega)) ?_
 exact W.e0 rfl
 refine And.intro ?_ ?_
 intro L_ w1 hX_ hs_ hf_ hd_
 obtain ⟨_, e4, rfl⟩ := hd_ 4 rfl
 exact W.s1 (e4 _ rfl) (W.move rfl rfl (W.e0 rfl))
 refine And.intro ?_ ?_
 intro L_ w1 hX_ hs_ hf_ hd_
 obtain ⟨_, e5, rfl⟩ := hd_ 5 rfl
 exact W.s1 (e5 _ rfl) (W.skips rfl rfl rfl rfl rfl rfl (W.e0 rfl))
 refine And.intro ?_ ?_
 intro L_ w1 hX_ hs_ hf_ hd_
 obtain ⟨_, e5, rfl⟩ := hd_ 5 rfl
 exact W.s1 (e5 _ rfl) (W.skips rfl rfl rfl rfl rfl rfl (W.e0 rfl))
 refine And.intro ?_ ?_
 intro L_ w1 hX_ hs_ hf_ hd_
 obtain ⟨_, e5, rfl⟩ := hd_ 5 rfl
 exact W.s1 (e5 _ rfl) (W.skips rfl rfl rfl rfl rfl rfl (W.e0 rfl))
 refine And.intro ?_ ?_
 intro L_ w1 hX_ hs_ hf_ hd_
 obtain ⟨_, e5, rfl⟩ := hd_ 5 rfl
 exact W.s1 (e5 _ rfl) (W.skips rfl rfl rfl rfl rfl rfl (W.e0 rfl))
 refine And.intro ?_ ?_
 intro L_ w1 hX_ hs_ hf_ hd_
 obtain ⟨_, e5, rfl⟩ := hd_ 5 rfl
 exact W.s1 (e5 _ rfl) (W.skips rfl rfl rfl rfl rfl rfl (W.e0 rfl))
 refine And.intro ?_ ?_
 intro L_ w1 hX_ hs_ hf_ hd_
 obtain ⟨_, e5, rfl⟩ := hd_ 5 rfl
 exact W.s1 (e5 _ rfl) (W.skips rfl rfl rfl rfl rfl rfl (W.e0 rfl))
 refine And.intro ?_ ?_
 intro L_ w1 hX_ hs_ hf_ hd_
 obtain ⟨_, e5, rfl⟩ := hd_ 5 rfl
 exact W.s1 (e5 _ rfl) (W.skips rfl rfl rfl rfl rfl rfl (W.e0 rfl))
 refine And.intro ?_ ?_
 intro L_ w1 hX_ hs_ hf_ hd_
 obtain ⟨_, e5, rfl⟩ := hd_ 5 rfl
 exact W.s1 (e5 _ rfl) (W.skips rfl rfl rfl rfl rfl rfl (W.e0 rfl))
 refine And.intro ?_ ?_
 intro L_ w1 hX_ hs_ hf_ hd_
 obtain ⟨_, e5, rfl⟩ := hd_ 5 rfl
 exact W.s1 (e5 _ rfl) (W.skips rfl rfl rfl rfl rfl rfl (W.e0 rfl))
 refine And.intro ?_ ?_
 intro L_ w1 hX_ hs_ hf_ hd_
 obtain ⟨_, e5, rfl⟩ := hd_ 5 rfl
 exact W.s1 (e5 _ rfl) (W.skips rfl rfl rfl rfl rfl rfl (W.e0 rfl))
 refine And.intro ?_ ?_
 intro L_ w1 hX_ hs_ hf_ hd_
 obtain ⟨_, e5, rfl⟩ := hd_ 5 rfl
 exact W.s1 (e5 _ rfl) (W.skips rfl rfl rfl rfl rfl rfl (W.e0 rfl))
 refine And.intro ?_ ?_
 intro L_ w1 hX_ hs_ hf_ hd_
 obtain ⟨_, e5, rfl⟩ := hd_ 5 rfl
 exact W.s1 (e5 _ rfl) (W.skips rfl rfl rfl rfl rfl rfl (W.e0 rfl))
 refine And.intro ?_ ?_
 intro L_ w1 hX_ hs_ hf_ hd_
 obtain ⟨_, e5, rfl⟩ := hd_ 5 rfl
 obtain ⟨v17, e17, r17⟩ := hd_ 17 rfl
 obtain rfl : (undef : Value) = v17 := Eq.symm r17
 exact W.s2 (e5 _ rfl) (e17 _ rfl) (W.pickF rfl rfl rfl (W.e0 rfl))
 exact trivial
 intro L_ w1 hX1 hs_ hv_
 obtain ⟨_, e18, rfl⟩ := hv_ 18 (by decide)
 refine W.weaken (l' := [(23, _), (0, _), (1, _)]) (sc (e18 _ rfl) (sc (hs_ _ _ rfl) (sc (hs_ _ _ rfl) (Sub.nil)))) ?_
 refine W.nil (At.thenCode ?_)
 refine C.condF rfl ?_
 refine C.skip (At.thenCode (C.seq (C.seq (C.region (W.move rfl rfl (W.nilCheck rfl rfl (W.fieldB (off := 2) (size := 1) (t := 29) (Fld.of (by kernel_rfl)) rfl rfl rfl ?_)))))))
 have hB1 := hB.ext hX1
 refine W.loadB rfl Tryz.underlying29 rfl (by assumption) rfl rfl ?_
 refine W.neqI rfl rfl rfl ?_
 refine W.eqv (bT (by omega)) ?_
 refine W.nil (At.thenCode ?_)
 refine C.condT rfl ?_
 refine C.seq (C.region (W.assign rfl rfl (W.nil (At.thenCode (C.ret (At.thenRet ?_))))))
 refine At.ret1 Tryz.results97 rfl ?_
 exact ⟨none, 0, rfl, NewB.nil _ _, ⟨h.ext hX1, Chg.mono hX1 fun k hk => hk.elim⟩⟩
theorem bytesC (g : Nat) (q : Option Addr) (c : Nat) (b : List UInt8) (p n : Nat) (w : World) (h : Rdr w g q c b (0, b.drop p)) (hB : Bk w g [.slice q b.length c, .int .i64 (p : Int), .int .i64 0]) (hp : p ≤ b.length) (hn : n ≤ 1099511627776) (hlen : b.length ≤ 1099511627776) (hs : ¬ p + n ≤ b.length) :
   Ct Tryz.prog 97 #[.pointer (some ⟨g, 0, none⟩), .int .i64 (n : Int)] w (TakeP g q c b w ([], (4, []))) := by
 refine Ct.enter [(0, .pointer (some ⟨g, 0, none⟩)), (1, .int .i64 (n : Int))] Tryz.func97 rfl rfl rfl rfl ?_
 refine C.seq (C.region (W.assign rfl rfl (W.nil (At.thenCode (C.seq (C.seq ?_))))))
 refine C.regionAny 19 (E_ (.pointer (some ⟨g, 0, none⟩)) :: E_ (.pointer (some ⟨g, 0, none⟩)) :: E_ (.pointer (some ⟨g, 2, none⟩)) :: E_ (.int .i64 0) :: E_ (.bool true) :: E_ (.bool true) :: E_ (.pointer (some ⟨g, 0, none⟩)) :: E_ (.pointer (some ⟨g, 0, none⟩)) :: E_ (.pointer (some ⟨g, 0, none⟩)) :: E_ (.slice q b.length c) :: E_ (.int .i64 (b.length : Int)) :: E_ (.pointer (some ⟨g, 0, none⟩)) :: E_ (.pointer (some ⟨g, 0, none⟩)) :: E_ (.pointer (some ⟨g, 1, none⟩)) :: E_ (.int .i64 (p : Int)) :: E_ (.int .i64 ((b.length : Int) - (p : Int))) :: E_ (.int .i64 (n : Int)) :: E_ (.bool true) :: E_ (.bool true) :: []) [(0, .pointer (some ⟨g, 0, none⟩)), (1, .int .i64 (n : Int))] [] (sc rfl (sc rfl (Sub.nil))) (Sub.nil) (sc rfl (sc rfl (Sub.nil))) (by kernel_rfl) rfl rfl rfl (sN (sN (sN (sN (sN (sN (sN (sN (sN (sN (sN (sN (sN (sN (sN (sN (sN (sN (sN (trivial)))))))))))))))))))) ?_ ?_
 refine And.intro (mB rfl rfl (fun _ => rfl) rfl) ?_
 refine And.intro ?_ ?_
 intro L_ w1 hX_ hs_ hf_ hd_
 obtain ⟨_, e0, rfl⟩ := hd_ 0 rfl
 exact W.s1 (e0 _ rfl) (W.nilCheck rfl rfl (W.e0 rfl))
 refine And.intro ?_ ?_
 intro L_ w1 hX_ hs_ hf_ hd_
 obtain ⟨_, e1, rfl⟩ := hd_ 1 rfl
 exact W.s1 (e1 _ rfl) (W.fieldB (off := 2) (size := 1) (t := 29) (Fld.of (by kernel_rfl)) rfl rfl rfl (W.e0 rfl))
 refine And.intro ?_ ?_
 intro L_ w1 hX_ hs_ hf_ hd_
 obtain ⟨_, e2, rfl⟩ := hd_ 2 rfl
 refine W.s1 (e2 _ rfl) ?_
 refine W.loadB rfl Tryz.underlying29 rfl (Bk.ext (by assumption) hX_) rfl rfl ?_
 exact W.e0 rfl
 refine And.intro ?_ ?_
 intro L_ w1 hX_ hs_ hf_ hd_
 obtain ⟨_, e3, rfl⟩ := hd_ 3 rfl
 refine W.s1 (e3 _ rfl) (W.eqlI rfl rfl rfl ?_)
 refine W.eqv (bT (rfl)) ?_
 exact W.e0 rfl
 refine And.intro ?_ ?_
 intro L_ w1 hX_ hs_ hf_ hd_
 obtain ⟨_, e4, rfl⟩ := hd_ 4 rfl
 exact W.s1 (e4 _ rfl) (W.move rfl rfl (W.e0 rfl))
 refine And.intro ?_ ?_
 intro L_ w1 hX_ hs_ hf_ hd_
 obtain ⟨_, e5, rfl⟩ := hd_ 5 rfl
 exact W.s2 (hs_ 0 _ rfl) (e5 _ rfl) (W.wants rfl rfl rfl rfl (W.move rfl rfl (W.e0 rfl)))
 refine And.intro ?_ ?_
 intro L_ w1 hX_ hs_ hf_ hd_
 obtain ⟨_, e6, rfl⟩ := hd_ 6 rfl
 obtain ⟨_, e5, rfl⟩ := hd_ 5 rfl
 exact W.s2 (e6 _ rfl) (e5 _ rfl) (W.wants rfl rfl rfl rfl (W.nilCheck rfl rfl (W.e0 rfl)))
 refine And.intro ?_ ?_
 intro L_ w1 hX_ hs_ hf_ hd_
 obtain ⟨_, e7, rfl⟩ := hd_ 7 rfl
 obtain ⟨_, e5, rfl⟩ := hd_ 5 rfl
 exact W.s2 (e7 _ rfl) (e5 _ rfl) (W.wants rfl rfl rfl rfl (W.fieldB (off := 0) (size := 1) (t := 22) (Fld.of (by kernel_rfl)) rfl rfl rfl (W.e0 rfl)))
 refine And.intro ?_ ?_
 intro L_ w1 hX_ hs_ hf_ hd_
 obtain ⟨_, e8, rfl⟩ := hd_ 8 rfl
 obtain ⟨_, e5, rfl⟩ := hd_ 5 rfl
 refine W.s2 (e8 _ rfl) (e5 _ rfl) (W.wants rfl rfl rfl rfl ?_)
 refine W.loadB rfl Tryz.underlying22 rfl (Bk.ext (by assumption) hX_) rfl rfl ?_
 exact W.e0 rfl
 refine And.intro ?_ ?_
 intro L_ w1 hX_ hs_ hf_ hd_
 obtain ⟨_, e9, rfl⟩ := hd_ 9 rfl
 obtain ⟨_, e5, rfl⟩ := hd_ 5 rfl
 exact W.s2 (e9 _ rfl) (e5 _ rfl) (W.wants rfl rfl rfl rfl (W.lenS rfl Tryz.underlying22 rfl (W.e0 rfl)))
 refine And.intro ?_ ?_
 intro L_ w1 hX_ hs_ hf_ hd_
 obtain ⟨_, e5, rfl⟩ := hd_ 5 rfl
 exact W.s2 (hs_ 0 _ rfl) (e5 _ rfl) (W.wants rfl rfl rfl rfl (W.move rfl rfl (W.e0 rfl)))
 refine And.intro ?_ ?_
 intro L_ w1 hX_ hs_ hf_ hd_
 obtain ⟨_, e11, rfl⟩ := hd_ 11 rfl
 obtain ⟨_, e5, rfl⟩ := hd_ 5 rfl
 exact W.s2 (e11 _ rfl) (e5 _ rfl) (W.wants rfl rfl rfl rfl (W.nilCheck rfl rfl (W.e0 rfl)))
 refine And.intro ?_ ?_
 intro L_ w1 hX_ hs_ hf_ hd_
 obtain ⟨_, e12, rfl⟩ := hd_ 12 rfl
 obtain ⟨_, e5, rfl⟩ := hd_ 5 rfl
 exact W.s2 (e12 _ rfl) (e5 _ rfl) (W.wants rfl rfl rfl rfl (W.fieldB (off := 1) (size := 1) (t := 3) (Fld.of (by kernel_rfl)) rfl rfl rfl (W.e0 rfl)))
 refine And.intro ?_ ?_
 intro L_ w1 hX_ hs_ hf_ hd_
 obtain ⟨_, e13, rfl⟩ := hd_ 13 rfl
 obtain ⟨_, e5, rfl⟩ := hd_ 5 rfl
 refine W.s2 (e13 _ rfl) (e5 _ rfl) (W.wants rfl rfl rfl rfl ?_)
 refine W.loadB rfl Tryz.underlying3 rfl (Bk.ext (by assumption) hX_) rfl rfl ?_
 exact W.e0 rfl
 refine And.intro ?_ ?_
 intro L_ w1 hX_ hs_ hf_ hd_
 obtain ⟨_, e10, rfl⟩ := hd_ 10 rfl
 obtain ⟨_, e14, rfl⟩ := hd_ 14 rfl
 obtain ⟨_, e5, rfl⟩ := hd_ 5 rfl
 refine W.s3 (e10 _ rfl) (e14 _ rfl) (e5 _ rfl) (W.wants rfl rfl rfl rfl ?_)
 refine W.subI rfl rfl (by omega) rfl ?_
 exact W.e0 rfl
 refine And.intro ?_ ?_
 intro L_ w1 hX_ hs_ hf_ hd_
 obtain ⟨_, e5, rfl⟩ := hd_ 5 rfl
 exact W.s2 (hs_ 1 _ rfl) (e5 _ rfl) (W.wants rfl rfl rfl rfl (W.move rfl rfl (W.e0 rfl)))
 refine And.intro ?_ ?_
 intro L_ w1 hX_ hs_ hf_ hd_
 obtain ⟨_, e15, rfl⟩ := hd_ 15 rfl
 obtain ⟨_, e16, rfl⟩ := hd_ 16 rfl
 obtain ⟨_, e5, rfl⟩ := hd_ 5 rfl
 refine W.s3 (e15 _ rfl) (e16 _ rfl) (e5 _ rfl) (W.wants rfl rfl rfl rfl (W.lssI rfl rfl rfl ?_))
 refine W.eqv (bT (by omega)) ?_
 exact W.e0 rfl
 refine And.intro ?_ ?_
 intro L_ w1 hX_ hs_ hf_ hd_
 obtain ⟨_, e5, rfl⟩ := hd_ 5 rfl
 obtain ⟨_, e17, rfl⟩ := hd_ 17 rfl
 exact W.s2 (e5 _ rfl) (e17 _ rfl) (W.pickT rfl rfl rfl (W.e0 rfl))
 exact trivial
 intro L_ w1 hX1 hs_ hv_
 obtain ⟨_, e18, rfl⟩ := hv_ 18 (by decide)
 refine W.weaken (l' := [(23, _), (0, _), (1, _)]) (sc (e18 _ rfl) (sc (hs_ _ _ rfl) (sc (hs_ _ _ rfl) (Sub.nil)))) ?_
 refine W.nil (At.thenCode ?_)
 refine C.condT rfl ?_
 refine C.region (W.move rfl rfl ?_)
 have h1 := h.ext hX1
 refine W.call Tryz.call110 rfl (Cod.fail_ok _ _ _ _ _ _ _ (by assumption) (by decide) (by decide)) rfl ?_
 rintro v25 w25 ⟨rfl, hP25⟩
 obtain ⟨p2, e2, hB2, _, _, he2⟩ := hP25.rdr.out
 have he4 : e2 = 4 := by have := congrArg Prod.fst he2; exact this.symm
 refine W.nil (At.thenCode (C.seq (C.seq (C.region (W.move rfl rfl (W.nilCheck rfl rfl (W.fieldB (off := 2) (size := 1) (t := 29) (Fld.of (by kernel_rfl)) rfl rfl rfl ?_)))))))
 refine W.loadB rfl Tryz.underlying29 rfl (by assumption) rfl rfl ?_
 refine W.neqI rfl rfl rfl ?_
 refine W.eqv (bT (by omega)) ?_
 refine W.nil (At.thenCode ?_)
 refine C.condT rfl ?_
 refine C.seq (C.region (W.assign rfl rfl (W.nil (At.thenCode (C.ret (At.thenRet ?_))))))
 refine At.ret1 Tryz.results97 rfl ?_
 exact ⟨none, 0, rfl, NewB.nil _ _, ⟨hP25.rdr, (Chg.mono hX1 fun k hk => hk.elim).trans hP25.chg⟩⟩
theorem bytesB (g : Nat) (q : Option Addr) (c : Nat) (b : List UInt8) (p n : Nat) (w : World) (h : Rdr w g q c b (0, b.drop p)) (hB : Bk w g [.slice q b.length c, .int .i64 (p : Int), .int .i64 0]) (hp : p ≤ b.length) (hn : n ≤ 1099511627776) (hlen : b.length ≤ 1099511627776) (hs : p + n ≤ b.length) :
   Ct Tryz.prog 97 #[.pointer (some ⟨g, 0, none⟩), .int .i64 (n : Int)] w (TakeP g q c b w ((b.drop p).take n, (0, b.drop (p + n)))) := by
 refine Ct.enter [(0, .pointer (some ⟨g, 0, none⟩)), (1, .int .i64 (n : Int))] Tryz.func97 rfl rfl rfl rfl ?_
 obtain ⟨xs, hxs⟩ : ∃ xs, xs = (b.drop p).take n := ⟨_, rfl⟩
 have hxl : xs.length = n := by rw [hxs, List.length_take, List.length_drop]; omega
 rw [← hxs]
 refine C.seq (C.region (W.assign rfl rfl (W.nil (At.thenCode (C.seq (C.seq ?_))))))
 refine C.regionAny 19 (E_ (.pointer (some ⟨g, 0, none⟩)) :: E_ (.pointer (some ⟨g, 0, none⟩)) :: E_ (.pointer (some ⟨g, 2, none⟩)) :: E_ (.int .i64 0) :: E_ (.bool true) :: E_ (.bool true) :: E_ (.pointer (some ⟨g, 0, none⟩)) :: E_ (.pointer (some ⟨g, 0, none⟩)) :: E_ (.pointer (some ⟨g, 0, none⟩)) :: E_ (.slice q b.length c) :: E_ (.int .i64 (b.length : Int)) :: E_ (.pointer (some ⟨g, 0, none⟩)) :: E_ (.pointer (some ⟨g, 0, none⟩)) :: E_ (.pointer (some ⟨g, 1, none⟩)) :: E_ (.int .i64 (p : Int)) :: E_ (.int .i64 ((b.length : Int) - (p : Int))) :: E_ (.int .i64 (n : Int)) :: E_ (.bool false) :: E_ (.bool false) :: []) [(0, .pointer (some ⟨g, 0, none⟩)), (1, .int .i64 (n : Int))] [] (sc rfl (sc rfl (Sub.nil))) (Sub.nil) (sc rfl (sc rfl (Sub.nil))) (by kernel_rfl) rfl rfl rfl (sN (sN (sN (sN (sN (sN (sN (sN (sN (sN (sN (sN (sN (sN (sN (sN (sN (sN (sN (trivial)))))))))))))))))))) ?_ ?_
 refine And.intro (mB rfl rfl (fun _ => rfl) rfl) ?_
 refine And.intro ?_ ?_
 intro L_ w1 hX_ hs_ hf_ hd_
 obtain ⟨_, e0, rfl⟩ := hd_ 0 rfl
 exact W.s1 (e0 _ rfl) (W.nilCheck rfl rfl (W.e0 rfl))
 refine And.intro ?_ ?_
 intro L_ w1 hX_ hs_ hf_ hd_
 obtain ⟨_, e1, rfl⟩ := hd_ 1 rfl
 exact W.s1 (e1 _ rfl) (W.fieldB (off := 2) (size := 1) (t := 29) (Fld.of (by kernel_rfl)) rfl rfl rfl (W.e0 rfl))
 refine And.intro ?_ ?_
 intro L_ w1 hX_ hs_ hf_ hd_
 obtain ⟨_, e2, rfl⟩ := hd_ 2 rfl
 refine W.s1 (e2 _ rfl) ?_
 refine W.loadB rfl Tryz.underlying29 rfl (Bk.ext (by assumption) hX_) rfl rfl ?_
 exact W.e0 rfl
 refine And.intro ?_ ?_
 intro L_ w1 hX_ hs_ hf_ hd_
 obtain ⟨_, e3, rfl⟩ := hd_ 3 rfl
 refine W.s1 (e3 _ rfl) (W.eqlI rfl rfl rfl ?_)
 refine W.eqv (bT (rfl)) ?_
 exact W.e0 rfl
 refine And.intro ?_ ?_
 intro L_ w1 hX_ hs_ hf_ hd_
 obtain ⟨_, e4, rfl⟩ := hd_ 4 rfl
 exact W.s1 (e4 _ rfl) (W.move rfl rfl (W.e0 rfl))
 refine And.intro ?_ ?_
 intro L_ w1 hX_ hs_ hf_ hd_
 obtain ⟨_, e5, rfl⟩ := hd_ 5 rfl
 exact W.s2 (hs_ 0 _ rfl) (e5 _ rfl) (W.wants rfl rfl rfl rfl (W.move rfl rfl (W.e0 rfl)))
 refine And.intro ?_ ?_
 intro L_ w1 hX_ hs_ hf_ hd_
 obtain ⟨_, e6, rfl⟩ := hd_ 6 rfl
 obtain ⟨_, e5, rfl⟩ := hd_ 5 rfl
 exact W.s2 (e6 _ rfl) (e5 _ rfl) (W.wants rfl rfl rfl rfl (W.nilCheck rfl rfl (W.e0 rfl)))
 refine And.intro ?_ ?_
 intro L_ w1 hX_ hs_ hf_ hd_
 obtain ⟨_, e7, rfl⟩ := hd_ 7 rfl
 obtain ⟨_, e5, rfl⟩ := hd_ 5 rfl
 exact W.s2 (e7 _ rfl) (e5 _ rfl) (W.wants rfl rfl rfl rfl (W.fieldB (off := 0) (size := 1) (t := 22) (Fld.of (by kernel_rfl)) rfl rfl rfl (W.e0 rfl)))
 refine And.intro ?_ ?_
 intro L_ w1 hX_ hs_ hf_ hd_
 obtain ⟨_, e8, rfl⟩ := hd_ 8 rfl
 obtain ⟨_, e5, rfl⟩ := hd_ 5 rfl
 refine W.s2 (e8 _ rfl) (e5 _ rfl) (W.wants rfl rfl rfl rfl ?_)
 refine W.loadB rfl Tryz.underlying22 rfl (Bk.ext (by assumption) hX_) rfl rfl ?_
 exact W.e0 rfl
 refine And.intro ?_ ?_
 intro L_ w1 hX_ hs_ hf_ hd_
 obtain ⟨_, e9, rfl⟩ := hd_ 9 rfl
 obtain ⟨_, e5, rfl⟩ := hd_ 5 rfl
 exact W.s2 (e9 _ rfl) (e5 _ rfl) (W.wants rfl rfl rfl rfl (W.lenS rfl Tryz.underlying22 rfl (W.e0 rfl)))
 refine And.intro ?_ ?_
 intro L_ w1 hX_ hs_ hf_ hd_
 obtain ⟨_, e5, rfl⟩ := hd_ 5 rfl
 exact W.s2 (hs_ 0 _ rfl) (e5 _ rfl) (W.wants rfl rfl rfl rfl (W.move rfl rfl (W.e0 rfl)))
 refine And.intro ?_ ?_
 intro L_ w1 hX_ hs_ hf_ hd_
 obtain ⟨_, e11, rfl⟩ := hd_ 11 rfl
 obtain ⟨_, e5, rfl⟩ := hd_ 5 rfl
 exact W.s2 (e11 _ rfl) (e5 _ rfl) (W.wants rfl rfl rfl rfl (W.nilCheck rfl rfl (W.e0 rfl)))
 refine And.intro ?_ ?_
 intro L_ w1 hX_ hs_ hf_ hd_
 obtain ⟨_, e12, rfl⟩ := hd_ 12 rfl
 obtain ⟨_, e5, rfl⟩ := hd_ 5 rfl
 exact W.s2 (e12 _ rfl) (e5 _ rfl) (W.wants rfl rfl rfl rfl (W.fieldB (off := 1) (size := 1) (t := 3) (Fld.of (by kernel_rfl)) rfl rfl rfl (W.e0 rfl)))
 refine And.intro ?_ ?_
 intro L_ w1 hX_ hs_ hf_ hd_
 obtain ⟨_, e13, rfl⟩ := hd_ 13 rfl
 obtain ⟨_, e5, rfl⟩ := hd_ 5 rfl
 refine W.s2 (e13 _ rfl) (e5 _ rfl) (W.wants rfl rfl rfl rfl ?_)
 refine W.loadB rfl Tryz.underlying3 rfl (Bk.ext (by assumption) hX_) rfl rfl ?_
 exact W.e0 rfl
 refine And.intro ?_ ?_
 intro L_ w1 hX_ hs_ hf_ hd_
 obtain ⟨_, e10, rfl⟩ := hd_ 10 rfl
 obtain ⟨_, e14, rfl⟩ := hd_ 14 rfl
 obtain ⟨_, e5, rfl⟩ := hd_ 5 rfl
 refine W.s3 (e10 _ rfl) (e14 _ rfl) (e5 _ rfl) (W.wants rfl rfl rfl rfl ?_)
 refine W.subI rfl rfl (by omega) rfl ?_
 exact W.e0 rfl
 refine And.intro ?_ ?_
 intro L_ w1 hX_ hs_ hf_ hd_
 obtain ⟨_, e5, rfl⟩ := hd_ 5 rfl
 exact W.s2 (hs_ 1 _ rfl) (e5 _ rfl) (W.wants rfl rfl rfl rfl (W.move rfl rfl (W.e0 rfl)))
 refine And.intro ?_ ?_
 intro L_ w1 hX_ hs_ hf_ hd_
 obtain ⟨_, e15, rfl⟩ := hd_ 15 rfl
 obtain ⟨_, e16, rfl⟩ := hd_ 16 rfl
 obtain ⟨_, e5, rfl⟩ := hd_ 5 rfl
 refine W.s3 (e15 _ rfl) (e16 _ rfl) (e5 _ rfl) (W.wants rfl rfl rfl rfl (W.lssI rfl rfl rfl ?_))
 refine W.eqv (bF (by omega)) ?_
 exact W.e0 rfl
 refine And.intro ?_ ?_
 intro L_ w1 hX_ hs_ hf_ hd_
 obtain ⟨_, e5, rfl⟩ := hd_ 5 rfl
 obtain ⟨_, e17, rfl⟩ := hd_ 17 rfl
 exact W.s2 (e5 _ rfl) (e17 _ rfl) (W.pickT rfl rfl rfl (W.e0 rfl))
 exact trivial
 intro L_ w1 hX1 hs_ hv_
 obtain ⟨_, e18, rfl⟩ := hv_ 18 (by decide)
 refine W.weaken (l' := [(23, _), (0, _), (1, _)]) (sc (e18 _ rfl) (sc (hs_ _ _ rfl) (sc (hs_ _ _ rfl) (Sub.nil)))) ?_
 refine W.nil (At.thenCode ?_)
 refine C.condF rfl ?_
 refine C.skip (At.thenCode (C.seq (C.seq (C.region (W.move rfl rfl (W.nilCheck rfl rfl (W.fieldB (off := 2) (size := 1) (t := 29) (Fld.of (by kernel_rfl)) rfl rfl rfl ?_)))))))
 have h1 := h.ext hX1
 have hB1 := hB.ext hX1
 refine W.loadB rfl Tryz.underlying29 rfl (by assumption) rfl rfl ?_
 refine W.neqI rfl rfl rfl ?_
 refine W.eqv (bF (by omega)) ?_
 refine W.nil (At.thenCode ?_)
 refine C.condF rfl ?_
 refine C.skip (At.thenCode (C.seq (C.region (W.move rfl rfl (W.nilCheck rfl rfl (W.fieldB (off := 1) (size := 1) (t := 3) (Fld.of (by kernel_rfl)) rfl rfl rfl ?_))))))
 refine W.loadB rfl Tryz.underlying3 rfl (by assumption) rfl rfl ?_
 refine W.move rfl rfl ?_
 refine W.addI rfl rfl (by omega) rfl ?_
 refine W.nilCheck rfl rfl (W.fieldB (off := 1) (size := 1) (t := 3) (Fld.of (by kernel_rfl)) rfl rfl rfl ?_)
 refine W.store1 rfl rfl rfl hB1 (by simp) (by kernel_rfl) ?_
 intro w5 hc5 hB5
 have hB5 : Bk w5 g [.slice q b.length c, .int .i64 ((p + n : Nat) : Int), .int .i64 0] := by simpa using hB5
 have hP5 := h1.set (p := p + n) (e := 0) hc5 hB5 (by omega) (by decide)
 refine W.nil (At.thenCode (C.seq ?_))
 refine C.regionAny 15 (E_ (.pointer (some ⟨g, 0, none⟩)) :: E_ (.pointer (some ⟨g, 0, none⟩)) :: E_ (.pointer (some ⟨g, 0, none⟩)) :: E_ (.slice q b.length c) :: E_ (.pointer (some ⟨g, 0, none⟩)) :: E_ (.pointer (some ⟨g, 0, none⟩)) :: E_ (.pointer (some ⟨g, 1, none⟩)) :: E_ (.int .i64 ((p + n : Nat) : Int)) :: E_ (.int .i64 (n : Int)) :: E_ (.int .i64 (((p + n : Nat) : Int) - (n : Int))) :: E_ (.pointer (some ⟨g, 0, none⟩)) :: E_ (.pointer (some ⟨g, 0, none⟩)) :: E_ (.pointer (some ⟨g, 1, none⟩)) :: E_ (.int .i64 ((p + n : Nat) : Int)) :: (fun v w => Rep w v xs) :: []) [(0, .pointer (some ⟨g, 0, none⟩)), (1, .int .i64 (n : Int))] [] (sc rfl (sc rfl (Sub.nil))) (Sub.nil) (sc rfl (sc rfl (Sub.nil))) (by kernel_rfl) rfl rfl rfl (sN (sN (sN (sN (sN (sN (sN (sN (sN (sN (sN (sN (sN (sN (sM (fun _ _ _ h g => h.ext g) (trivial)))))))))))))))) ?_ ?_
 refine And.intro (mB rfl rfl (fun _ => rfl) rfl) ?_
 refine And.intro ?_ ?_
 intro L_ w6 hX_ hs_ hf_ hd_
 obtain ⟨_, e0, rfl⟩ := hd_ 0 rfl
 exact W.s1 (e0 _ rfl) (W.nilCheck rfl rfl (W.e0 rfl))
 refine And.intro ?_ ?_
 intro L_ w6 hX_ hs_ hf_ hd_
 obtain ⟨_, e1, rfl⟩ := hd_ 1 rfl
 exact W.s1 (e1 _ rfl) (W.fieldB (off := 0) (size := 1) (t := 22) (Fld.of (by kernel_rfl)) rfl rfl rfl (W.e0 rfl))
 refine And.intro ?_ ?_
 intro L_ w6 hX_ hs_ hf_ hd_
 obtain ⟨_, e2, rfl⟩ := hd_ 2 rfl
 refine W.s1 (e2 _ rfl) ?_
 refine W.loadB rfl Tryz.underlying22 rfl (Bk.ext (by assumption) hX_) rfl rfl ?_
 exact W.e0 rfl
 refine And.intro (mB rfl rfl (fun _ => rfl) rfl) ?_
 refine And.intro ?_ ?_
 intro L_ w6 hX_ hs_ hf_ hd_
 obtain ⟨_, e4, rfl⟩ := hd_ 4 rfl
 exact W.s1 (e4 _ rfl) (W.nilCheck rfl rfl (W.e0 rfl))
 refine And.intro ?_ ?_
 intro L_ w6 hX_ hs_ hf_ hd_
 obtain ⟨_, e5, rfl⟩ := hd_ 5 rfl
 exact W.s1 (e5 _ rfl) (W.fieldB (off := 1) (size := 1) (t := 3) (Fld.of (by kernel_rfl)) rfl rfl rfl (W.e0 rfl))
 refine And.intro ?_ ?_
 intro L_ w6 hX_ hs_ hf_ hd_
 obtain ⟨_, e6, rfl⟩ := hd_ 6 rfl
 refine W.s1 (e6 _ rfl) ?_
 refine W.loadB rfl Tryz.underlying3 rfl (Bk.ext (by assumption) hX_) rfl rfl ?_
 exact W.e0 rfl
 refine And.intro (mB rfl rfl (fun _ => rfl) rfl) ?_
 refine And.intro ?_ ?_
 intro L_ w6 hX_ hs_ hf_ hd_
 obtain ⟨_, e7, rfl⟩ := hd_ 7 rfl
 obtain ⟨_, e8, rfl⟩ := hd_ 8 rfl
 refine W.s2 (e7 _ rfl) (e8 _ rfl) ?_
 refine W.subI rfl rfl (by omega) rfl ?_
 exact W.e0 rfl
 refine And.intro (mB rfl rfl (fun _ => rfl) rfl) ?_
 refine And.intro ?_ ?_
 intro L_ w6 hX_ hs_ hf_ hd_
 obtain ⟨_, e10, rfl⟩ := hd_ 10 rfl
 exact W.s1 (e10 _ rfl) (W.nilCheck rfl rfl (W.e0 rfl))
 refine And.intro ?_ ?_
 intro L_ w6 hX_ hs_ hf_ hd_
 obtain ⟨_, e11, rfl⟩ := hd_ 11 rfl
 exact W.s1 (e11 _ rfl) (W.fieldB (off := 1) (size := 1) (t := 3) (Fld.of (by kernel_rfl)) rfl rfl rfl (W.e0 rfl))
 refine And.intro ?_ ?_
 intro L_ w6 hX_ hs_ hf_ hd_
 obtain ⟨_, e12, rfl⟩ := hd_ 12 rfl
 refine W.s1 (e12 _ rfl) ?_
 refine W.loadB rfl Tryz.underlying3 rfl (Bk.ext (by assumption) hX_) rfl rfl ?_
 exact W.e0 rfl
 refine And.intro ?_ ?_
 intro L_ w6 hX_ hs_ hf_ hd_
 obtain ⟨_, e3, rfl⟩ := hd_ 3 rfl
 obtain ⟨_, e9, rfl⟩ := hd_ 9 rfl
 obtain ⟨_, e13, rfl⟩ := hd_ 13 rfl
 refine W.s3 (e3 _ rfl) (e9 _ rfl) (e13 _ rfl) ?_
 have hb5 := hP5.rdr.bs.ext hX_
 refine W.slice (lo := p) (hi := p + n) E8 Tryz.underlying22 rfl hb5 (.inr ⟨_, _, rfl, look_eq rfl (iV (by omega))⟩) (.inr ⟨_, _, rfl, rfl⟩) (by omega) (by omega) rfl ?_
 intro ao2 c2 hS2 _
 rw [show p + n - p = n by omega, Nat.mul_one, Nat.mul_one, ← List.map_drop, ← List.map_take, ← hxs] at hS2
 rw [show p + n - p = n by omega]
 have hrep : Rep w6 (.slice ao2 n c2) xs := ⟨ao2, c2, by rw [hxl], by show Sl _ _ _ _ _ _; rw [hxl]; exact hS2⟩
 exact W.e0 hrep
 exact trivial
 intro L_ w6 hX6 hs_ hv_
 obtain ⟨v14, e14, r14⟩ := hv_ 14 (by decide)
 obtain ⟨a14, c14, rfl, hs14⟩ := r14
 refine W.weaken (l' := [(53, _), (0, _), (1, _)]) (sc (e14 _ rfl) (sc (hs_ _ _ rfl) (sc (hs_ _ _ rfl) (Sub.nil)))) ?_
 refine W.appendB (ys := xs) E8 Tryz.underlying22 rfl rfl (Ow.nil _ w6.heap.size 5) hs14 (by simp; omega) (Nat.le_refl _) rfl ?_
 rw [List.nil_append]
 intro v54 w54 ho54 hg54 _
 have hX54 : Ext w6 w54 := (Chg.of_grown hg54).mono fun k hk => by cases hk
 obtain ⟨aR, cR, rfl, hSR, hbR⟩ := ownsRow_form ho54
 refine W.assign rfl rfl (W.nil (At.thenCode (C.ret ?_)))
 refine At.ret1 Tryz.results97 rfl ?_
 have hr5 := hP5.rdr
 refine ⟨aR, cR, rfl, ⟨hSR, fun ad ea _ => ?_⟩, ⟨?_, ?_⟩⟩
 have := hbR ad ea; have := hX1.size; have := hc5.size; have := hX6.size; omega
 have := (hr5.ext hX6).ext hX54
 simpa using this
 exact ((Chg.mono hX1 fun k hk => hk.elim).trans hc5).trans (Chg.mono (hX6.ext hX54) fun k hk => hk.elim)
theorem rbytes_ok (g : Nat) (q : Option Addr) (c : Nat) (b : List UInt8) (s : St) (n : Nat) (w : World) (h : Rdr w g q c b s) (hlen : b.length ≤ 1099511627776) (hn : n ≤ 1099511627776) :
   Ct Tryz.prog 97 #[.pointer (some ⟨g, 0, none⟩), .int .i64 (n : Int)] w (TakeP g q c b w (takeS n s)) := by
 obtain ⟨p, e, hB, hp, he, rfl⟩ := h.out
 by_cases h0 : e = 0
 subst h0
 rw [if_pos rfl] at h ⊢
 by_cases hs : p + n ≤ b.length
 rw [takeS_at hp hs]
 exact bytesB g q c b p n w h hB hp hn hlen hs
 rw [takeS_short hp hs]
 exact bytesC g q c b p n w h hB hp hn hlen hs
 rw [if_neg h0] at h ⊢
 rw [takeS_bad (show (e, ([] : List UInt8)).1 ≠ 0 from h0)]
 exact bytesA g q c b p e n w h hB h0
theorem over_ok (g : Nat) (q : Option Addr) (c : Nat) (b : List UInt8) (s : St) (w : World) (h : Rdr w g q c b s) (hlen : b.length ≤ 1099511627776) :
   Ct Tryz.prog 98 #[.pointer (some ⟨g, 0, none⟩)] w (fun v w' => v = .int .i64 (overS s : Int) ∧ Chg (fun k => k = g) w w') := by
 refine Ct.enter [(0, .pointer (some ⟨g, 0, none⟩))] Tryz.func98 rfl rfl rfl rfl ?_
 obtain ⟨p, e, hB, hp, he, rfl⟩ := h.out
 refine C.seq (C.region (W.assign rfl rfl (W.nil (At.thenCode (C.seq (C.seq ?_))))))
 refine C.regionAny 10 (E_ (.pointer (some ⟨g, 0, none⟩)) :: E_ (.pointer (some ⟨g, 0, none⟩)) :: E_ (.pointer (some ⟨g, 1, none⟩)) :: E_ (.int .i64 (p : Int)) :: E_ (.pointer (some ⟨g, 0, none⟩)) :: E_ (.pointer (some ⟨g, 0, none⟩)) :: E_ (.pointer (some ⟨g, 0, none⟩)) :: E_ (.slice q b.length c) :: E_ (.int .i64 (b.length : Int)) :: E_ (.bool (decide ((p : Int) < (b.length : Int)))) :: []) [(0, .pointer (some ⟨g, 0, none⟩))] [] (sc rfl (Sub.nil)) (Sub.nil) (sc rfl (Sub.nil)) (by kernel_rfl) rfl rfl rfl (sN (sN (sN (sN (sN (sN (sN (sN (sN (sN (trivial))))))))))) ?_ ?_
 refine And.intro (mB rfl rfl (fun _ => rfl) rfl) ?_
 refine And.intro ?_ ?_
 intro L_ w1 hX_ hs_ hf_ hd_
 obtain ⟨_, e0, rfl⟩ := hd_ 0 rfl
 exact W.s1 (e0 _ rfl) (W.nilCheck rfl rfl (W.e0 rfl))
 refine And.intro ?_ ?_
 intro L_ w1 hX_ hs_ hf_ hd_
 obtain ⟨_, e1, rfl⟩ := hd_ 1 rfl
 exact W.s1 (e1 _ rfl) (W.fieldB (off := 1) (size := 1) (t := 3) (Fld.of (by kernel_rfl)) rfl rfl rfl (W.e0 rfl))
 refine And.intro ?_ ?_
 intro L_ w1 hX_ hs_ hf_ hd_
 obtain ⟨_, e2, rfl⟩ := hd_ 2 rfl
 refine W.s1 (e2 _ rfl) ?_
 refine W.loadB rfl Tryz.underlying3 rfl (Bk.ext (by assumption) hX_) rfl rfl ?_
 exact W.e0 rfl
 refine And.intro (mB rfl rfl (fun _ => rfl) rfl) ?_
 refine And.intro ?_ ?_
 intro L_ w1 hX_ hs_ hf_ hd_
 obtain ⟨_, e4, rfl⟩ := hd_ 4 rfl
 exact W.s1 (e4 _ rfl) (W.nilCheck rfl rfl (W.e0 rfl))
 refine And.intro ?_ ?_
 intro L_ w1 hX_ hs_ hf_ hd_
 obtain ⟨_, e5, rfl⟩ := hd_ 5 rfl
 exact W.s1 (e5 _ rfl) (W.fieldB (off := 0) (size := 1) (t := 22) (Fld.of (by kernel_rfl)) rfl rfl rfl (W.e0 rfl))
 refine And.intro ?_ ?_
 intro L_ w1 hX_ hs_ hf_ hd_
 obtain ⟨_, e6, rfl⟩ := hd_ 6 rfl
 refine W.s1 (e6 _ rfl) ?_
 refine W.loadB rfl Tryz.underlying22 rfl (Bk.ext (by assumption) hX_) rfl rfl ?_
 exact W.e0 rfl
 refine And.intro ?_ ?_
 intro L_ w1 hX_ hs_ hf_ hd_
 obtain ⟨_, e7, rfl⟩ := hd_ 7 rfl
 exact W.s1 (e7 _ rfl) (W.lenS rfl Tryz.underlying22 rfl (W.e0 rfl))
 refine And.intro ?_ ?_
 intro L_ w1 hX_ hs_ hf_ hd_
 obtain ⟨_, e3, rfl⟩ := hd_ 3 rfl
 obtain ⟨_, e8, rfl⟩ := hd_ 8 rfl
 exact W.s2 (e3 _ rfl) (e8 _ rfl) (W.lssI rfl rfl rfl (W.e0 rfl))
 exact trivial
 intro L_ w1 hX1 hs_ hv_
 obtain ⟨_, e9, rfl⟩ := hv_ 9 (by decide)
 refine W.weaken (l' := [(12, _), (0, _)]) (sc (e9 _ rfl) (sc (hs_ _ _ rfl) (Sub.nil))) ?_
 refine W.nil (At.thenCode ?_)
 refine C.condD rfl (fun c12 => ?_) (fun c12 => ?_)
 have h1 := h.ext hX1
 refine C.region (W.move rfl rfl ?_)
 refine W.call Tryz.call110 rfl (Cod.fail_ok _ _ _ _ _ _ _ (by assumption) (by decide) (by decide)) rfl ?_
 rintro v14 w14 ⟨rfl, hP14⟩
 obtain ⟨p2, e2, hB2, _, _, he2⟩ := hP14.rdr.out
 have he3 := congrArg Prod.fst he2
 refine W.nil (At.thenCode (C.seq (C.region (W.move rfl rfl (W.nilCheck rfl rfl (W.fieldB (off := 2) (size := 1) (t := 29) (Fld.of (by kernel_rfl)) rfl rfl rfl ?_))))))
 refine W.loadB rfl Tryz.underlying29 rfl (by assumption) rfl rfl ?_
 refine W.assign rfl rfl (W.nil (At.thenCode (C.ret ?_)))
 refine At.ret1 Tryz.results98 rfl ?_
 first
 | (refine ⟨?_, (Chg.mono hX1 fun k hk => hk.elim).trans hP14.chg⟩
    rw [failS_cases 2 e (b.drop p) (by decide)] at he3
    have he3 : (if e = 0 then 2 else e) = e2 := he3
    rw [← he3]
    unfold overS
    by_cases h0 : e = 0
    subst h0
    have hne : b.drop p ≠ [] := by intro hc; have := congrArg List.length hc; rw [List.length_drop] at this; simp at this; omega
    simp [hne]
    simp [h0])
 | (refine ⟨?_, Chg.mono hX1 fun k hk => hk.elim⟩
    unfold overS
    by_cases h0 : e = 0
    subst h0
    have hne : b.drop p = [] := List.drop_of_length_le (by omega)
    simp [hne]
    simp [h0])
 have hB1 := hB.ext hX1
 refine C.skip (At.thenCode (C.seq (C.region (W.move rfl rfl (W.nilCheck rfl rfl (W.fieldB (off := 2) (size := 1) (t := 29) (Fld.of (by kernel_rfl)) rfl rfl rfl ?_))))))
 refine W.loadB rfl Tryz.underlying29 rfl (by assumption) rfl rfl ?_
 refine W.assign rfl rfl (W.nil (At.thenCode (C.ret ?_)))
 refine At.ret1 Tryz.results98 rfl ?_
 first
 | (refine ⟨?_, (Chg.mono hX1 fun k hk => hk.elim).trans hP14.chg⟩
    rw [failS_cases 2 e (b.drop p) (by decide)] at he3
    have he3 : (if e = 0 then 2 else e) = e2 := he3
    rw [← he3]
    unfold overS
    by_cases h0 : e = 0
    subst h0
    have hne : b.drop p ≠ [] := by intro hc; have := congrArg List.length hc; rw [List.length_drop] at this; simp at this; omega
    simp [hne]
    simp [h0])
 | (refine ⟨?_, Chg.mono hX1 fun k hk => hk.elim⟩
    unfold overS
    by_cases h0 : e = 0
    subst h0
    have hne : b.drop p = [] := List.drop_of_length_le (by omega)
    simp [hne]
    simp [h0])
theorem list_ok (g : Nat) (q : Option Addr) (c : Nat) (b : List UInt8) (s : St) (m : Nat) (w : World) (h : Rdr w g q c b s) (hlen : b.length ≤ 1099511627776) (hm : m ≤ 9223372036854775807) :
   Ct Tryz.prog 95 #[.pointer (some ⟨g, 0, none⟩), .int .i64 (m : Int)] w (fun v w' => v = .tuple #[.int .i64 ((intS m s).1 : Int), .int .i64 ((sizeS (intS m s).1 (intS m s).2).1 : Int)] ∧ RdP w g q c b (sizeS (intS m s).1 (intS m s).2).2 w') := by
 refine Ct.enter [(0, .pointer (some ⟨g, 0, none⟩)), (1, .int .i64 (m : Int))] Tryz.func95 rfl rfl rfl rfl ?_
 refine C.seq (C.region (W.assign rfl rfl (W.assign rfl rfl (W.nil (At.thenCode (C.seq (C.region (W.move rfl rfl (W.move rfl rfl ?_)))))))))
 refine W.call Tryz.call93 rfl (Cod.rint_ok _ _ _ _ _ _ _ (by assumption) (by assumption) (by first | omega | decide)) rfl ?_
 rintro v10 w10 ⟨rfl, hP10⟩
 have hr10 := hP10.rdr
 refine W.assign rfl rfl (W.nil (At.thenCode (C.seq (C.region (W.move rfl rfl ?_)))))
 refine W.call Tryz.call93 rfl (Cod.rint_ok g q c b (intS m s).2 1048576 _ hr10 hlen (by decide)) rfl ?_
 rintro v12 w12 ⟨rfl, hP12⟩
 have hr12 := hP12.rdr
 refine W.assign rfl rfl (W.nil (At.thenCode (C.seq (C.seq (C.region (W.move rfl rfl (W.eqlI rfl rfl rfl (W.move rfl rfl ?_))))))))
 refine W.splitD (fun g15 => ?_) (fun g15 => ?_)
 refine W.wants rfl rfl rfl rfl (W.move rfl rfl (W.wants rfl rfl rfl rfl (W.gtrI rfl rfl rfl (W.pickT rfl rfl rfl (W.nil (At.thenCode ?_))))))
 refine C.condD rfl (fun c18 => ?_) (fun c18 => ?_)
 refine C.region (W.move rfl rfl ?_)
 refine W.call Tryz.call110 rfl (Cod.fail_ok _ _ _ _ _ _ _ (by assumption) (by decide) (by decide)) rfl ?_
 rintro v20 w20 ⟨rfl, hP20⟩
 refine W.nil (At.thenCode (C.seq (C.region (W.move rfl rfl (W.move rfl rfl (W.assign rfl rfl (W.assign rfl rfl (W.nil (At.thenCode (C.ret ?_))))))))))
 refine At.ret2 Tryz.results95 rfl rfl ?_
 first
 | (have e : sizeS (intS m s).1 (intS m s).2 = ((intS 1048576 (intS m s).2).1, failS 2 (intS 1048576 (intS m s).2).2) := by
      have hc : (intS m s).1 = 0 ∧ 0 < (intS 1048576 (intS m s).2).1 := ⟨by omega, by omega⟩
      unfold sizeS; rw [if_pos hc]
    rw [e]
    exact ⟨rfl, (hP10.trans hP12).trans hP20⟩)
 | (have e : sizeS (intS m s).1 (intS m s).2 = intS 1048576 (intS m s).2 := by
      have hc : ¬ ((intS m s).1 = 0 ∧ 0 < (intS 1048576 (intS m s).2).1) := by rintro ⟨h1, h2⟩; first | omega | exact g15 (by omega) | (simp_all; done)
      unfold sizeS; rw [if_neg hc]
    rw [e]
    exact ⟨rfl, hP10.trans hP12⟩)
 refine C.skip (At.thenCode (C.seq (C.region (W.move rfl rfl (W.move rfl rfl (W.assign rfl rfl (W.assign rfl rfl (W.nil (At.thenCode (C.ret ?_))))))))))
 refine At.ret2 Tryz.results95 rfl rfl ?_
 first
 | (have e : sizeS (intS m s).1 (intS m s).2 = ((intS 1048576 (intS m s).2).1, failS 2 (intS 1048576 (intS m s).2).2) := by
      have hc : (intS m s).1 = 0 ∧ 0 < (intS 1048576 (intS m s).2).1 := ⟨by omega, by omega⟩
      unfold sizeS; rw [if_pos hc]
    rw [e]
    exact ⟨rfl, (hP10.trans hP12).trans hP20⟩)
 | (have e : sizeS (intS m s).1 (intS m s).2 = intS 1048576 (intS m s).2 := by
      have hc : ¬ ((intS m s).1 = 0 ∧ 0 < (intS 1048576 (intS m s).2).1) := by rintro ⟨h1, h2⟩; first | omega | exact g15 (by omega) | (simp_all; done)
      unfold sizeS; rw [if_neg hc]
    rw [e]
    exact ⟨rfl, hP10.trans hP12⟩)
 refine W.skips rfl rfl rfl rfl rfl rfl (W.skips rfl rfl rfl rfl rfl rfl (W.pickF rfl rfl rfl (W.nil (At.thenCode ?_))))
 refine C.condF rfl ?_
 refine C.skip (At.thenCode (C.seq (C.region (W.move rfl rfl (W.move rfl rfl (W.assign rfl rfl (W.assign rfl rfl (W.nil (At.thenCode (C.ret ?_))))))))))
 refine At.ret2 Tryz.results95 rfl rfl ?_
 first
 | (have e : sizeS (intS m s).1 (intS m s).2 = ((intS 1048576 (intS m s).2).1, failS 2 (intS 1048576 (intS m s).2).2) := by
      have hc : (intS m s).1 = 0 ∧ 0 < (intS 1048576 (intS m s).2).1 := ⟨by omega, by omega⟩
      unfold sizeS; rw [if_pos hc]
    rw [e]
    exact ⟨rfl, (hP10.trans hP12).trans hP20⟩)
 | (have e : sizeS (intS m s).1 (intS m s).2 = intS 1048576 (intS m s).2 := by
      have hc : ¬ ((intS m s).1 = 0 ∧ 0 < (intS 1048576 (intS m s).2).1) := by rintro ⟨h1, h2⟩; first | omega | exact g15 (by omega) | (simp_all; done)
      unfold sizeS; rw [if_neg hc]
    rw [e]
    exact ⟨rfl, hP10.trans hP12⟩)
theorem splice_pre (xs : List UInt8) {n : Nat} (h : xs.length ≤ n) (pre : List Value) : KW.splice (pre ++ (List.replicate n (0 : UInt8)).map byteV) pre.length (xs.map byteV) = pre ++ (xs ++ List.replicate (n - xs.length) 0).map byteV := by
 apply List.ext_getElem?
 intro i
 rw [splice_get _ _ _ _ (by simp; omega), List.length_map]
 by_cases h1 : i < pre.length
 rw [if_neg (by omega), List.getElem?_append_left h1, List.getElem?_append_left h1]
 rw [List.getElem?_append_right (by omega), List.getElem?_append_right (by omega), List.map_append]
 by_cases h2 : i < pre.length + xs.length
 rw [if_pos ⟨by omega, h2⟩, List.getElem?_append_left (by simp; omega)]
 rw [if_neg (by omega), List.getElem?_append_right (by simp; omega)]
 simp only [List.length_map, List.map_replicate, List.getElem?_replicate]
 by_cases h3 : i - pre.length < n
 rw [if_pos h3, if_pos (by omega)]
 rw [if_neg h3, if_neg (by omega)]
def Z32 : List Value := (List.replicate 32 (0 : UInt8)).map byteV
def KeyP (w0 : World) (g : Nat) (q : Option Addr) (c : Nat) (b : List UInt8) (s : St) (v : Value) (w : World) : Prop := ∃ ao c', v = .slice ao (takeS 32 s).1.length c' ∧ NewB w0 w ao c' (takeS 32 s).1 ∧ Rdr w g q c b (takeS 32 s).2
theorem NewB.ext {w w1 w2 : World} {ao : Option Addr} {c : Nat} {xs : List UInt8} (h : NewB w w1 ao c xs) (x : Ext w1 w2) : NewB w w2 ao c xs := ⟨h.1.ext x, h.2⟩
theorem NewB.old {w0 w w1 : World} {ao : Option Addr} {c : Nat} {xs : List UInt8} (h : NewB w w1 ao c xs) (x : w0.heap.size ≤ w.heap.size) : NewB w0 w1 ao c xs := ⟨h.1, fun ad e hn => Nat.le_trans x (h.2 ad e hn)⟩
theorem KeyP.ext {w0 w w' : World} {g : Nat} {q : Option Addr} {c : Nat} {b : List UInt8} {s : St} {v : Value} (h : KeyP w0 g q c b s v w) (x : Ext w w') : KeyP w0 g q c b s v w' := by
 obtain ⟨ao, c', e, h1, h2⟩ := h
 exact ⟨ao, c', e, h1.ext x, h2.ext x⟩
theorem key_ok (g : Nat) (q : Option Addr) (c : Nat) (b : List UInt8) (s : St) (w : World) (h : Rdr w g q c b s) (hlen : b.length ≤ 1099511627776) :
   Ct Tryz.prog 96 #[.pointer (some ⟨g, 0, none⟩)] w (fun v w' => v = .agg ((keyS s).1.map byteV).toArray ∧ RdP w g q c b (keyS s).2 w') := by
 refine Ct.enter [(0, .pointer (some ⟨g, 0, none⟩))] Tryz.func96 rfl rfl rfl rfl ?_
 have hgl := h.lt
 have hkl := takeS_len 32 s
 have hk32 := keyS_len s
 refine C.seq (C.region ?_)
 refine W.alloc (z := .agg Z32.toArray) Z32 (by kernel_rfl) rfl rfl ?_
 intro g2 w2 hg2 hX2 hB2
 refine W.nil (At.thenCode (C.seq (C.region ?_)))
 refine W.alloc (z := .agg Z32.toArray) Z32 (by kernel_rfl) rfl rfl ?_
 intro g3 w3 hg3 hX3 hB3
 have hX3a := hX2.ext hX3
 have h3 := h.ext hX3a
 have hB2a := hB2.ext hX3
 have hl2 := hB2.lt
 refine W.nil (At.thenCode (C.seq ?_))
 refine C.regionAnyB (fun k b => k = 2 ∧ b = g) 3 (E_ (.slice (some ⟨g3, 0, none⟩) 32 32) :: E_ (.pointer (some ⟨g, 0, none⟩)) :: (fun v w => KeyP w3 g q c b s v w) :: []) [(0, .pointer (some ⟨g, 0, none⟩)), (2, .pointer (some ⟨g2, 0, none⟩)), (3, .pointer (some ⟨g3, 0, none⟩))] [] (sc rfl (sc rfl (sc rfl (Sub.nil)))) (Sub.nil) (sc rfl (sc rfl (sc rfl (Sub.nil)))) (by kernel_rfl) rfl rfl rfl (sN (sN (sM (fun _ _ _ h g => KeyP.ext h (FamPost.ext g (fun k q h1 h2 h3 => h1 h3.1))) (trivial)))) ?_ ?_
 refine And.intro ?_ ?_
 intro L_ wr hX_ hs_ hf_ hd_
 refine W.s1 (hs_ 3 _ rfl) ?_
 refine W.sliceA X8 Tryz.underlying43 rfl rfl ?_
 exact W.eF rfl
 refine And.intro ?_ ?_
 intro L_ wr hX_ hs_ hf_ hd_
 exact W.s1 (hs_ 0 _ rfl) (W.move rfl rfl (W.eF rfl))
 refine And.intro ?_ ?_
 intro L_ wr hX_ hs_ hf_ hd_
 obtain ⟨_, e1, rfl⟩ := hd_ 1 rfl
 refine W.s1 (e1 _ rfl) ?_
 have hXe := FamPre.ext hX_ (fun k q h1 h2 h3 => h1 h3.1)
 have hr := h3.ext hXe
 refine W.call Tryz.call97 rfl (Cod.rbytes_ok g q c b s 32 _ hr hlen (by decide)) rfl ?_
 rintro v6 w6 ⟨ao6, c6, rfl, hN6, hP6⟩
 refine W.nil ?_
 exact At.stepF (Fam.of 2 ((Chg.mono (Chg.refl _ _) fun k hk => hk).trans (hP6.chg.mono fun k hk => ⟨rfl, hk⟩))) ⟨ao6, c6, rfl, hN6.old hXe.size, hP6.rdr⟩
 exact trivial
 intro L_ wr hX2 hs_ hv_
 obtain ⟨_, e0, rfl⟩ := hv_ 0 (by decide)
 obtain ⟨v2, e2, r2⟩ := hv_ 2 (by decide)
 obtain ⟨ao6, c6, rfl, hN6, hR6⟩ := r2
 refine W.weaken (l' := [(4, _), (6, _), (0, _), (2, _), (3, _)]) (sc (e0 _ rfl) (sc (e2 _ rfl) (sc (hs_ _ _ rfl) (sc (hs_ _ _ rfl) (sc (hs_ _ _ rfl) (Sub.nil)))))) ?_
 have hC2 : Chg (fun k => k = g) w3 wr := Chg.mono hX2 fun b ⟨k, h1, h2⟩ => h2
 have hB3r := hB3.chg hC2 (by omega)
 have hB2r := hB2a.chg hC2 (by omega)
 refine W.copyB (k := (takeS 32 s).1.length) (cs := Z32) Tryz.underlying22 (by kernel_rfl) rfl rfl hB3r hN6.1 (bytes_oneCell _) (by show _ = min _ _; omega) (by show 0 + _ ≤ 32; omega) rfl ?_
 intro w7 hc7 hB7
 have hsp := splice_pre (takeS 32 s).1 hkl []
 have hB7 : Bk w7 g3 ((keyS s).1.map byteV) := by
   rw [List.take_of_length_le (by simp)] at hB7
   simp only [List.nil_append, List.length_nil] at hsp
   unfold Z32 at hB7
   rw [hsp] at hB7
   exact hB7
 have hB2s := hB2r.chg hc7 (by omega)
 refine W.nil (At.thenCode (C.seq (C.region ?_)))
 refine W.loadA rfl (hB7.cells (o := 0)) Tryz.underlying43 rfl (by rw [List.drop_zero, List.length_map, hk32]; kernel_rfl) rfl ?_
 rw [List.drop_zero]
 refine W.storeA ((keyS s).1.map byteV) rfl rfl hB2s (by rw [List.length_map, hk32]; rfl) (by rw [List.length_map, hk32]; kernel_rfl) (bytes_oneCell _) ?_
 intro w8 hc8 hB8
 refine W.nil (At.thenCode (C.ret ?_))
 -- RESULT IN A CELL
 refine At.retC Tryz.results96 rfl (hB8.cells (o := 0)) Tryz.underlying43 rfl (by rw [List.drop_zero, List.length_map, hk32]; kernel_rfl) ?_
 rw [List.drop_zero]
 have hs3 := hX3a.size
 refine ⟨rfl, ⟨?_, ?_⟩⟩
 obtain ⟨p, e, r1, r2⟩ := hR6.out
 refine ⟨⟨p, e, (r1.chg hc7 (by omega)).chg hc8 (by omega), r2⟩, ?_, hR6.far⟩
 exact (hR6.bs.chg hc7 (fun ad ea hn hk => by have := h.bs.blk ea (by simpa using hn); have := hX2.size; omega)).chg hc8 (fun ad ea hn hk => by have := h.bs.blk ea (by simpa using hn); omega)
 have h1 : Chg (fun k => k = g) w wr := (Chg.mono hX3a fun k hk => hk.elim).trans hC2
 exact (h1.news hc7 fun k hk => Or.inr (by have := hX2.size; omega)).news hc8 fun k hk => Or.inr (by omega)
theorem splice_mid {pre mid post xs : List Value} (h : xs.length = mid.length) : KW.splice (pre ++ (mid ++ post)) pre.length xs = pre ++ (xs ++ post) := by
 apply List.ext_getElem?
 intro i
 rw [splice_get _ _ _ _ (by simp; omega)]
 by_cases h1 : i < pre.length
 rw [if_neg (by omega), List.getElem?_append_left h1, List.getElem?_append_left h1]
 have e1 : (pre ++ (mid ++ post))[i]? = (mid ++ post)[i - pre.length]? := List.getElem?_append_right (by omega)
 have e2 : (pre ++ (xs ++ post))[i]? = (xs ++ post)[i - pre.length]? := List.getElem?_append_right (by omega)
 rw [e1, e2]
 by_cases h2 : i < pre.length + xs.length
 rw [if_pos ⟨by omega, h2⟩, List.getElem?_append_left (by omega)]
 rw [if_neg (by omega), List.getElem?_append_right (by omega), List.getElem?_append_right (by omega), h]
theorem far_new {w : World} {q : Option Addr} {c : Nat} {b : List UInt8} (hs : Bs w q c b) {g : Nat} (hg : w.heap.size ≤ g) : ∀ ad, q = some ad → b ≠ [] → ad.block ≠ g := fun ad e hn h => by
 have := hs.blk e (by simpa using hn)
 omega
def RdrC (q : Option Addr) (c : Nat) (b : List UInt8) : List Value := [.slice q b.length c, .int .i64 0, .int .i64 0]
def zeroNoteC : List Value := [u64V 0, u64V 0] ++ Z32
theorem NewB.byt {w w' : World} {A : Nat → Prop} {ao : Option Addr} {c : Nat} {xs : List UInt8} (h : NewB w w' ao c xs) (hA : ∀ k, A k → k < w.heap.size) : RByt A w' [.slice ao xs.length c] xs := ⟨ao, c, rfl, h.1, fun ad e hn ha => by have := h.2 ad e hn; have := hA _ ha; omega⟩
def subL (u : List UInt8) (t : List Value) : List Value := u.map byteV ++ t
def subZ : List Value := [u64V 0, .slice none 0 0, u64V 0, u64V 0, u64V 0, u64V 0]
def zeroSubC : List Value := subL zeros32 subZ
theorem subL_set {u : List UInt8} (h : u.length = 32) (t : List Value) (j : Nat) (v : Value) : (subL u t).set (32 + j) v = subL u (t.set j v) := by
 unfold subL
 rw [List.set_append_right _ _ (by rw [List.length_map]; omega), List.length_map, h, show 32 + j - 32 = j by omega]
theorem subL_splice {u : List UInt8} (h : u.length = 32) : ∀ (vs t : List Value) (j : Nat), KW.splice (subL u t) (32 + j) vs = subL u (KW.splice t j vs) := by
 intro vs
 induction vs with
 | nil => intro t j; rfl
 | cons v r ih =>
   intro t j
   rw [KW.splice, subL_set h, show 32 + j + 1 = 32 + (j + 1) by omega, ih]
   rfl
end Go.Proofs.YthiijdbiikljpaaGreat.Cod
