/- Chapter 23's law on plays: do both stores tell the same, and the walk. Chapter 23's law on plays: the walk. -/
import Derived.Test.YthiijdbiikljpaaGreatZn
import Derived.Test.YthiijdbiikljpaaGreatZh
import Derived.Test.YthiijdbiikljpaaGreatZl
namespace Go.Proofs.YthiijdbiikljpaaGreat.Mbx
open Go Go.RowKit Go.Proofs.YthiijdbiikljpaaGreat.KW Go.Proofs.YthiijdbiikljpaaGreat.Words Go.Proofs.YthiijdbiikljpaaGreat.Sha Go.Proofs.YthiijdbiikljpaaGreat.RSha Go.Proofs.YthiijdbiikljpaaGreat.Grp Go.Proofs.YthiijdbiikljpaaGreat.Cod Go.Proofs.YthiijdbiikljpaaGreat.Disk
set_option linter.unusedVariables false
set_option linter.unusedSimpArgs false
set_option maxRecDepth 100000
theorem Bk.key {w : World} {g5 : Nat} {p : MAct} {vi vl vp vf : Value} (hk : p.name.length = 32) (h : Bk w g5 (actC p vi vl vp vf)) : Cells w ⟨g5, 8, none⟩ (p.name.map byteV) := by
 have := Bk.cellsN (o := 8) (n := 32) h
 rwa [actC_name hk] at this
theorem fetchL_len {l : List BatD} (h : ∀ x ∈ l, batE x = 0) (name : List UInt8) (a c : Int) : (fetchL l name a c).length ≤ l.length * 1000 :=
 Nat.le_trans (fetchH_len _ _ _ _) (heldL_len (fun y hy => (batE_small (h y hy)).2.1) name)
theorem Duo.bats {w0 w : World} {Y : Nat → Prop} {R : Thing} {g dg : Nat} {rv : Int} {B : Box} (h : Duo w0 w Y (TS g dg rv B) R) : ∀ x ∈ B.s.l, batE x = 0 := by
 obtain ⟨F, ⟨⟨F1, Fd, h1, _⟩, _⟩, _⟩ := h.left
 exact fun x hx => (h1.ok.1 x hx).2
theorem same_ok {w0 w : World} {Y : Nat → Prop} {g dg gr dr : Nat} {rv rr : Int} {B : Box} (hDu : Duo w0 w Y (TS g dg rv B) (TR gr dr rr B)) (p : MAct) (vi vl vp vf : Value) (ho : p.Ok) (hsl : B.s.l.length ≤ 1000000000) :
   Ct Tryz.prog 21 #[.pointer (some ⟨g, 0, none⟩), .pointer (some ⟨gr, 0, none⟩), .agg (actC p vi vl vp vf).toArray] w (fun v w' => v = .bool true ∧ Ext w w') := by
 refine Ct.enter [(0, .pointer (some ⟨g, 0, none⟩)), (1, .pointer (some ⟨gr, 0, none⟩)), (2, .agg (actC p vi vl vp vf).toArray)] Tryz.func21 rfl rfl rfl rfl ?_
 have hbr := ho.bat.1
 have hbc := ho.bat.2.1
 have hfl := fetchL_len hDu.bats p.name p.fr p.to
 obtain ⟨L, hL⟩ : ∃ L, L = fetchL B.s.l p.name p.fr p.to := ⟨_, rfl⟩
 rw [← hL] at hfl
 have hfl2 : L.length ≤ 9000000000000000000 := by omega
 refine C.seq (C.region ?_)
 refine W.box (actC p vi vl vp vf) rfl rfl rfl ?_
 intro g5 w5 hg5 hX5 hB5
 have hDu5 := hDu.xt hX5
 refine W.assign rfl rfl (W.nil (At.thenCode (C.seq ?_)))
 refine C.regionAny 44 (E_ (.pointer (some ⟨g, 0, none⟩)) :: E_ (.int .i64 (B.s.l.length : Int)) :: E_ (.pointer (some ⟨gr, 0, none⟩)) :: E_ (.int .i64 (B.s.l.length : Int)) :: E_ (.bool true) :: E_ (.bool true) :: E_ (.pointer (some ⟨g, 0, none⟩)) :: E_ (.pointer (some ⟨g5, 2, none⟩)) :: E_ (.pointer (some ⟨g5, 2, none⟩)) :: E_ (.int .i64 p.x.round) :: E_ (.pointer (some ⟨g5, 2, none⟩)) :: E_ (.pointer (some ⟨g5, 3, none⟩)) :: E_ (.int .i64 p.x.chain) :: E_ (.bool (hasL B.s.l p.x.round p.x.chain)) :: E_ (.pointer (some ⟨gr, 0, none⟩)) :: E_ (.pointer (some ⟨g5, 2, none⟩)) :: E_ (.pointer (some ⟨g5, 2, none⟩)) :: E_ (.int .i64 p.x.round) :: E_ (.pointer (some ⟨g5, 2, none⟩)) :: E_ (.pointer (some ⟨g5, 3, none⟩)) :: E_ (.int .i64 p.x.chain) :: E_ (.bool (hasL B.s.l p.x.round p.x.chain)) :: E_ (.bool true) :: E_ (.bool true) :: E_ (.bool true) :: E_ (.pointer (some ⟨g, 0, none⟩)) :: E_ (.pointer (some ⟨g5, 8, none⟩)) :: E_ (keyV p.name) :: E_ (.pointer (some ⟨g5, 40, none⟩)) :: E_ (.int .i64 p.fr) :: E_ (.pointer (some ⟨g5, 41, none⟩)) :: E_ (.int .i64 p.to) :: (fun v w => ∃ ao co, v = .slice ao L.length co ∧ Els (fun _ => False) w 33 RLet ao co L) :: E_ (.pointer (some ⟨gr, 0, none⟩)) :: E_ (.pointer (some ⟨g5, 8, none⟩)) :: E_ (keyV p.name) :: E_ (.pointer (some ⟨g5, 40, none⟩)) :: E_ (.int .i64 p.fr) :: E_ (.pointer (some ⟨g5, 41, none⟩)) :: E_ (.int .i64 p.to) :: (fun v w => ∃ ao co, v = .slice ao L.length co ∧ Els (fun _ => False) w 33 RLet ao co L) :: E_ (.bool true) :: E_ (.bool true) :: E_ (.bool true) :: []) [(0, .pointer (some ⟨g, 0, none⟩)), (1, .pointer (some ⟨gr, 0, none⟩)), (5, .pointer (some ⟨g5, 0, none⟩))] [] (sc rfl (sc rfl (sc rfl (Sub.nil)))) (Sub.nil) (sc rfl (sc rfl (sc rfl (Sub.nil)))) (by kernel_rfl) rfl rfl rfl (sN (sN (sN (sN (sN (sN (sN (sN (sN (sN (sN (sN (sN (sN (sN (sN (sN (sN (sN (sN (sN (sN (sN (sN (sN (sN (sN (sN (sN (sN (sN (sN (sM (fun _ _ _ h g => by obtain ⟨a1, c1, e, h1⟩ := h; exact ⟨a1, c1, e, Els.ext rLet h1 g⟩) (sN (sN (sN (sN (sN (sN (sN (sM (fun _ _ _ h g => by obtain ⟨a1, c1, e, h1⟩ := h; exact ⟨a1, c1, e, Els.ext rLet h1 g⟩) (sN (sN (sN (trivial))))))))))))))))))))))))))))))))))))))))))))) ?_ ?_
 refine And.intro (mB rfl rfl (fun _ => rfl) rfl) ?_
 refine And.intro ?_ ?_
 intro L_ wr hX_ hs_ hf_ hd_
 obtain ⟨_, e0, rfl⟩ := hd_ 0 rfl
 refine W.s1 (e0 _ rfl) ?_
 refine W.call Tryz.call24 rfl (hDu5.xt hX_).Len rfl ?_
 rintro v8 w8 ⟨rfl, rfl⟩
 exact W.e0 rfl
 refine And.intro (mB rfl rfl (fun _ => rfl) rfl) ?_
 refine And.intro ?_ ?_
 intro L_ wr hX_ hs_ hf_ hd_
 obtain ⟨_, e2, rfl⟩ := hd_ 2 rfl
 refine W.s1 (e2 _ rfl) ?_
 refine W.call Tryz.call49 rfl (hDu5.xt hX_).RLen rfl ?_
 rintro v10 w10 ⟨rfl, rfl⟩
 exact W.e0 rfl
 refine And.intro ?_ ?_
 intro L_ wr hX_ hs_ hf_ hd_
 obtain ⟨_, e1, rfl⟩ := hd_ 1 rfl
 obtain ⟨_, e3, rfl⟩ := hd_ 3 rfl
 refine W.s2 (e1 _ rfl) (e3 _ rfl) (W.eqlI rfl rfl rfl ?_)
 refine W.eqv (bT (rfl)) ?_
 exact W.e0 rfl
 refine And.intro ?_ ?_
 intro L_ wr hX_ hs_ hf_ hd_
 obtain ⟨_, e4, rfl⟩ := hd_ 4 rfl
 exact W.s1 (e4 _ rfl) (W.move rfl rfl (W.e0 rfl))
 refine And.intro ?_ ?_
 intro L_ wr hX_ hs_ hf_ hd_
 obtain ⟨_, e5, rfl⟩ := hd_ 5 rfl
 exact W.s2 (hs_ 0 _ rfl) (e5 _ rfl) (W.wants rfl rfl rfl rfl (W.move rfl rfl (W.e0 rfl)))
 refine And.intro ?_ ?_
 intro L_ wr hX_ hs_ hf_ hd_
 obtain ⟨_, e5, rfl⟩ := hd_ 5 rfl
 exact W.s2 (hs_ 5 _ rfl) (e5 _ rfl) (W.wants rfl rfl rfl rfl (W.fieldB (off := 2) (size := 4) (t := 39) (Fld.of (by kernel_rfl)) rfl rfl rfl (W.e0 rfl)))
 refine And.intro ?_ ?_
 intro L_ wr hX_ hs_ hf_ hd_
 obtain ⟨_, e7, rfl⟩ := hd_ 7 rfl
 obtain ⟨_, e5, rfl⟩ := hd_ 5 rfl
 exact W.s2 (e7 _ rfl) (e5 _ rfl) (W.wants rfl rfl rfl rfl (W.fieldB (off := 0) (size := 1) (t := 3) (Fld.of (by kernel_rfl)) rfl rfl rfl (W.e0 rfl)))
 refine And.intro ?_ ?_
 intro L_ wr hX_ hs_ hf_ hd_
 obtain ⟨_, e8, rfl⟩ := hd_ 8 rfl
 obtain ⟨_, e5, rfl⟩ := hd_ 5 rfl
 refine W.s2 (e8 _ rfl) (e5 _ rfl) (W.wants rfl rfl rfl rfl ?_)
 refine W.loadB (v := .int .i64 p.x.round) rfl Tryz.underlying3 rfl (hB5.ext hX_) rfl rfl ?_
 exact W.e0 rfl
 refine And.intro ?_ ?_
 intro L_ wr hX_ hs_ hf_ hd_
 obtain ⟨_, e5, rfl⟩ := hd_ 5 rfl
 exact W.s2 (hs_ 5 _ rfl) (e5 _ rfl) (W.wants rfl rfl rfl rfl (W.fieldB (off := 2) (size := 4) (t := 39) (Fld.of (by kernel_rfl)) rfl rfl rfl (W.e0 rfl)))
 refine And.intro ?_ ?_
 intro L_ wr hX_ hs_ hf_ hd_
 obtain ⟨_, e10, rfl⟩ := hd_ 10 rfl
 obtain ⟨_, e5, rfl⟩ := hd_ 5 rfl
 exact W.s2 (e10 _ rfl) (e5 _ rfl) (W.wants rfl rfl rfl rfl (W.fieldB (off := 1) (size := 1) (t := 3) (Fld.of (by kernel_rfl)) rfl rfl rfl (W.e0 rfl)))
 refine And.intro ?_ ?_
 intro L_ wr hX_ hs_ hf_ hd_
 obtain ⟨_, e11, rfl⟩ := hd_ 11 rfl
 obtain ⟨_, e5, rfl⟩ := hd_ 5 rfl
 refine W.s2 (e11 _ rfl) (e5 _ rfl) (W.wants rfl rfl rfl rfl ?_)
 refine W.loadB (v := .int .i64 p.x.chain) rfl Tryz.underlying3 rfl (hB5.ext hX_) rfl rfl ?_
 exact W.e0 rfl
 refine And.intro ?_ ?_
 intro L_ wr hX_ hs_ hf_ hd_
 obtain ⟨_, e6, rfl⟩ := hd_ 6 rfl
 obtain ⟨_, e9, rfl⟩ := hd_ 9 rfl
 obtain ⟨_, e12, rfl⟩ := hd_ 12 rfl
 obtain ⟨_, e5, rfl⟩ := hd_ 5 rfl
 refine W.step [(13, _), (16, _), (19, _), (12, _)] (Sub.cons (e6 _ rfl) (Sub.cons (e9 _ rfl) (Sub.cons (e12 _ rfl) (Sub.cons (e5 _ rfl) (Sub.refl _))))) ?_
 refine W.wants rfl rfl rfl rfl ?_
 refine W.call Tryz.call50 rfl ((hDu5.xt hX_).Has hbr hbc) rfl ?_
 rintro v20 w20 ⟨rfl, rfl⟩
 exact W.e0 rfl
 refine And.intro ?_ ?_
 intro L_ wr hX_ hs_ hf_ hd_
 obtain ⟨_, e5, rfl⟩ := hd_ 5 rfl
 exact W.s2 (hs_ 1 _ rfl) (e5 _ rfl) (W.wants rfl rfl rfl rfl (W.move rfl rfl (W.e0 rfl)))
 refine And.intro ?_ ?_
 intro L_ wr hX_ hs_ hf_ hd_
 obtain ⟨_, e5, rfl⟩ := hd_ 5 rfl
 exact W.s2 (hs_ 5 _ rfl) (e5 _ rfl) (W.wants rfl rfl rfl rfl (W.fieldB (off := 2) (size := 4) (t := 39) (Fld.of (by kernel_rfl)) rfl rfl rfl (W.e0 rfl)))
 refine And.intro ?_ ?_
 intro L_ wr hX_ hs_ hf_ hd_
 obtain ⟨_, e15, rfl⟩ := hd_ 15 rfl
 obtain ⟨_, e5, rfl⟩ := hd_ 5 rfl
 exact W.s2 (e15 _ rfl) (e5 _ rfl) (W.wants rfl rfl rfl rfl (W.fieldB (off := 0) (size := 1) (t := 3) (Fld.of (by kernel_rfl)) rfl rfl rfl (W.e0 rfl)))
 refine And.intro ?_ ?_
 intro L_ wr hX_ hs_ hf_ hd_
 obtain ⟨_, e16, rfl⟩ := hd_ 16 rfl
 obtain ⟨_, e5, rfl⟩ := hd_ 5 rfl
 refine W.s2 (e16 _ rfl) (e5 _ rfl) (W.wants rfl rfl rfl rfl ?_)
 refine W.loadB (v := .int .i64 p.x.round) rfl Tryz.underlying3 rfl (hB5.ext hX_) rfl rfl ?_
 exact W.e0 rfl
 refine And.intro ?_ ?_
 intro L_ wr hX_ hs_ hf_ hd_
 obtain ⟨_, e5, rfl⟩ := hd_ 5 rfl
 exact W.s2 (hs_ 5 _ rfl) (e5 _ rfl) (W.wants rfl rfl rfl rfl (W.fieldB (off := 2) (size := 4) (t := 39) (Fld.of (by kernel_rfl)) rfl rfl rfl (W.e0 rfl)))
 refine And.intro ?_ ?_
 intro L_ wr hX_ hs_ hf_ hd_
 obtain ⟨_, e18, rfl⟩ := hd_ 18 rfl
 obtain ⟨_, e5, rfl⟩ := hd_ 5 rfl
 exact W.s2 (e18 _ rfl) (e5 _ rfl) (W.wants rfl rfl rfl rfl (W.fieldB (off := 1) (size := 1) (t := 3) (Fld.of (by kernel_rfl)) rfl rfl rfl (W.e0 rfl)))
 refine And.intro ?_ ?_
 intro L_ wr hX_ hs_ hf_ hd_
 obtain ⟨_, e19, rfl⟩ := hd_ 19 rfl
 obtain ⟨_, e5, rfl⟩ := hd_ 5 rfl
 refine W.s2 (e19 _ rfl) (e5 _ rfl) (W.wants rfl rfl rfl rfl ?_)
 refine W.loadB (v := .int .i64 p.x.chain) rfl Tryz.underlying3 rfl (hB5.ext hX_) rfl rfl ?_
 exact W.e0 rfl
 refine And.intro ?_ ?_
 intro L_ wr hX_ hs_ hf_ hd_
 obtain ⟨_, e14, rfl⟩ := hd_ 14 rfl
 obtain ⟨_, e17, rfl⟩ := hd_ 17 rfl
 obtain ⟨_, e20, rfl⟩ := hd_ 20 rfl
 obtain ⟨_, e5, rfl⟩ := hd_ 5 rfl
 refine W.step [(21, _), (24, _), (27, _), (12, _)] (Sub.cons (e14 _ rfl) (Sub.cons (e17 _ rfl) (Sub.cons (e20 _ rfl) (Sub.cons (e5 _ rfl) (Sub.refl _))))) ?_
 refine W.wants rfl rfl rfl rfl ?_
 refine W.call Tryz.call51 rfl ((hDu5.xt hX_).RHas hsl) rfl ?_
 rintro v28 w28 ⟨rfl, rfl⟩
 exact W.e0 rfl
 refine And.intro ?_ ?_
 intro L_ wr hX_ hs_ hf_ hd_
 obtain ⟨_, e13, rfl⟩ := hd_ 13 rfl
 obtain ⟨_, e21, rfl⟩ := hd_ 21 rfl
 obtain ⟨_, e5, rfl⟩ := hd_ 5 rfl
 refine W.s3 (e13 _ rfl) (e21 _ rfl) (e5 _ rfl) (W.wants rfl rfl rfl rfl ?_)
 refine W.eqlB rfl rfl Tryz.underlying4 rfl ?_
 refine W.eqv (v' := .bool true) (by simp) ?_
 exact W.e0 rfl
 refine And.intro ?_ ?_
 intro L_ wr hX_ hs_ hf_ hd_
 obtain ⟨_, e5, rfl⟩ := hd_ 5 rfl
 obtain ⟨_, e22, rfl⟩ := hd_ 22 rfl
 exact W.s2 (e5 _ rfl) (e22 _ rfl) (W.pickT rfl rfl rfl (W.e0 rfl))
 refine And.intro ?_ ?_
 intro L_ wr hX_ hs_ hf_ hd_
 obtain ⟨_, e23, rfl⟩ := hd_ 23 rfl
 exact W.s1 (e23 _ rfl) (W.move rfl rfl (W.e0 rfl))
 refine And.intro ?_ ?_
 intro L_ wr hX_ hs_ hf_ hd_
 obtain ⟨_, e24, rfl⟩ := hd_ 24 rfl
 exact W.s2 (hs_ 0 _ rfl) (e24 _ rfl) (W.wants rfl rfl rfl rfl (W.move rfl rfl (W.e0 rfl)))
 refine And.intro ?_ ?_
 intro L_ wr hX_ hs_ hf_ hd_
 obtain ⟨_, e24, rfl⟩ := hd_ 24 rfl
 exact W.s2 (hs_ 5 _ rfl) (e24 _ rfl) (W.wants rfl rfl rfl rfl (W.fieldB (off := 8) (size := 32) (t := 43) (Fld.of (by kernel_rfl)) rfl rfl rfl (W.e0 rfl)))
 refine And.intro ?_ ?_
 intro L_ wr hX_ hs_ hf_ hd_
 obtain ⟨_, e26, rfl⟩ := hd_ 26 rfl
 obtain ⟨_, e24, rfl⟩ := hd_ 24 rfl
 refine W.s2 (e26 _ rfl) (e24 _ rfl) (W.wants rfl rfl rfl rfl ?_)
 refine W.loadA rfl (Bk.key ho.key (hB5.ext hX_)) Tryz.underlying43 rfl (by rw [List.length_map, ho.key]; kernel_rfl) rfl ?_
 exact W.e0 rfl
 refine And.intro ?_ ?_
 intro L_ wr hX_ hs_ hf_ hd_
 obtain ⟨_, e24, rfl⟩ := hd_ 24 rfl
 exact W.s2 (hs_ 5 _ rfl) (e24 _ rfl) (W.wants rfl rfl rfl rfl (W.fieldB (off := 40) (size := 1) (t := 3) (Fld.of (by kernel_rfl)) rfl rfl rfl (W.e0 rfl)))
 refine And.intro ?_ ?_
 intro L_ wr hX_ hs_ hf_ hd_
 obtain ⟨_, e28, rfl⟩ := hd_ 28 rfl
 obtain ⟨_, e24, rfl⟩ := hd_ 24 rfl
 refine W.s2 (e28 _ rfl) (e24 _ rfl) (W.wants rfl rfl rfl rfl ?_)
 refine W.loadB (v := .int .i64 p.fr) rfl Tryz.underlying3 rfl (hB5.ext hX_) (actC_fr ho.key _ _ _ _) rfl ?_
 exact W.e0 rfl
 refine And.intro ?_ ?_
 intro L_ wr hX_ hs_ hf_ hd_
 obtain ⟨_, e24, rfl⟩ := hd_ 24 rfl
 exact W.s2 (hs_ 5 _ rfl) (e24 _ rfl) (W.wants rfl rfl rfl rfl (W.fieldB (off := 41) (size := 1) (t := 3) (Fld.of (by kernel_rfl)) rfl rfl rfl (W.e0 rfl)))
 refine And.intro ?_ ?_
 intro L_ wr hX_ hs_ hf_ hd_
 obtain ⟨_, e30, rfl⟩ := hd_ 30 rfl
 obtain ⟨_, e24, rfl⟩ := hd_ 24 rfl
 refine W.s2 (e30 _ rfl) (e24 _ rfl) (W.wants rfl rfl rfl rfl ?_)
 refine W.loadB (v := .int .i64 p.to) rfl Tryz.underlying3 rfl (hB5.ext hX_) (actC_to ho.key _ _ _ _) rfl ?_
 exact W.e0 rfl
 refine And.intro ?_ ?_
 intro L_ wr hX_ hs_ hf_ hd_
 obtain ⟨_, e25, rfl⟩ := hd_ 25 rfl
 obtain ⟨_, e27, rfl⟩ := hd_ 27 rfl
 obtain ⟨_, e29, rfl⟩ := hd_ 29 rfl
 obtain ⟨_, e31, rfl⟩ := hd_ 31 rfl
 obtain ⟨_, e24, rfl⟩ := hd_ 24 rfl
 refine W.step [(32, _), (34, _), (36, _), (38, _), (31, _)] (Sub.cons (e25 _ rfl) (Sub.cons (e27 _ rfl) (Sub.cons (e29 _ rfl) (Sub.cons (e31 _ rfl) (Sub.cons (e24 _ rfl) (Sub.refl _)))))) ?_
 refine W.wants rfl rfl rfl rfl ?_
 refine W.call Tryz.call25 rfl ((hDu5.xt hX_).Fetch (name := p.name) (a := p.fr) (c := p.to) ho.key ho.fr ho.to hsl) rfl ?_
 rw [← hL]
 rintro v39 w39 ⟨a39, c39, rfl, hE39, hX39⟩
 exact W.e1 hX39 ⟨_, _, rfl, Els.new rLet hE39 fun _ h _ => h.elim⟩
 refine And.intro ?_ ?_
 intro L_ wr hX_ hs_ hf_ hd_
 obtain ⟨_, e24, rfl⟩ := hd_ 24 rfl
 exact W.s2 (hs_ 1 _ rfl) (e24 _ rfl) (W.wants rfl rfl rfl rfl (W.move rfl rfl (W.e0 rfl)))
 refine And.intro ?_ ?_
 intro L_ wr hX_ hs_ hf_ hd_
 obtain ⟨_, e24, rfl⟩ := hd_ 24 rfl
 exact W.s2 (hs_ 5 _ rfl) (e24 _ rfl) (W.wants rfl rfl rfl rfl (W.fieldB (off := 8) (size := 32) (t := 43) (Fld.of (by kernel_rfl)) rfl rfl rfl (W.e0 rfl)))
 refine And.intro ?_ ?_
 intro L_ wr hX_ hs_ hf_ hd_
 obtain ⟨_, e34, rfl⟩ := hd_ 34 rfl
 obtain ⟨_, e24, rfl⟩ := hd_ 24 rfl
 refine W.s2 (e34 _ rfl) (e24 _ rfl) (W.wants rfl rfl rfl rfl ?_)
 refine W.loadA rfl (Bk.key ho.key (hB5.ext hX_)) Tryz.underlying43 rfl (by rw [List.length_map, ho.key]; kernel_rfl) rfl ?_
 exact W.e0 rfl
 refine And.intro ?_ ?_
 intro L_ wr hX_ hs_ hf_ hd_
 obtain ⟨_, e24, rfl⟩ := hd_ 24 rfl
 exact W.s2 (hs_ 5 _ rfl) (e24 _ rfl) (W.wants rfl rfl rfl rfl (W.fieldB (off := 40) (size := 1) (t := 3) (Fld.of (by kernel_rfl)) rfl rfl rfl (W.e0 rfl)))
 refine And.intro ?_ ?_
 intro L_ wr hX_ hs_ hf_ hd_
 obtain ⟨_, e36, rfl⟩ := hd_ 36 rfl
 obtain ⟨_, e24, rfl⟩ := hd_ 24 rfl
 refine W.s2 (e36 _ rfl) (e24 _ rfl) (W.wants rfl rfl rfl rfl ?_)
 refine W.loadB (v := .int .i64 p.fr) rfl Tryz.underlying3 rfl (hB5.ext hX_) (actC_fr ho.key _ _ _ _) rfl ?_
 exact W.e0 rfl
 refine And.intro ?_ ?_
 intro L_ wr hX_ hs_ hf_ hd_
 obtain ⟨_, e24, rfl⟩ := hd_ 24 rfl
 exact W.s2 (hs_ 5 _ rfl) (e24 _ rfl) (W.wants rfl rfl rfl rfl (W.fieldB (off := 41) (size := 1) (t := 3) (Fld.of (by kernel_rfl)) rfl rfl rfl (W.e0 rfl)))
 refine And.intro ?_ ?_
 intro L_ wr hX_ hs_ hf_ hd_
 obtain ⟨_, e38, rfl⟩ := hd_ 38 rfl
 obtain ⟨_, e24, rfl⟩ := hd_ 24 rfl
 refine W.s2 (e38 _ rfl) (e24 _ rfl) (W.wants rfl rfl rfl rfl ?_)
 refine W.loadB (v := .int .i64 p.to) rfl Tryz.underlying3 rfl (hB5.ext hX_) (actC_to ho.key _ _ _ _) rfl ?_
 exact W.e0 rfl
 refine And.intro ?_ ?_
 intro L_ wr hX_ hs_ hf_ hd_
 obtain ⟨_, e33, rfl⟩ := hd_ 33 rfl
 obtain ⟨_, e35, rfl⟩ := hd_ 35 rfl
 obtain ⟨_, e37, rfl⟩ := hd_ 37 rfl
 obtain ⟨_, e39, rfl⟩ := hd_ 39 rfl
 obtain ⟨_, e24, rfl⟩ := hd_ 24 rfl
 refine W.step [(40, _), (42, _), (44, _), (46, _), (31, _)] (Sub.cons (e33 _ rfl) (Sub.cons (e35 _ rfl) (Sub.cons (e37 _ rfl) (Sub.cons (e39 _ rfl) (Sub.cons (e24 _ rfl) (Sub.refl _)))))) ?_
 refine W.wants rfl rfl rfl rfl ?_
 refine W.call Tryz.call53 rfl ((hDu5.xt hX_).RFetch (name := p.name) (a := p.fr) (c := p.to) ho.key hsl) rfl ?_
 rw [← hL]
 rintro v47 w47 ⟨a47, c47, rfl, hE47, hX47⟩
 exact W.e1 hX47 ⟨_, _, rfl, Els.new rLet hE47 fun _ h _ => h.elim⟩
 refine And.intro ?_ ?_
 intro L_ wr hX_ hs_ hf_ hd_
 obtain ⟨v32, e32, r32⟩ := hd_ 32 rfl
 obtain ⟨a32, c32, rfl, hE32⟩ := r32
 obtain ⟨v40, e40, r40⟩ := hd_ 40 rfl
 obtain ⟨a40, c40, rfl, hE40⟩ := r40
 obtain ⟨_, e24, rfl⟩ := hd_ 24 rfl
 refine W.s3 (e32 _ rfl) (e40 _ rfl) (e24 _ rfl) (W.wants rfl rfl rfl rfl ?_)
 refine W.call Tryz.call52 rfl (Cod.SameLetters_ok a32 c32 a40 c40 L _ hE32 hE40 hfl2) rfl ?_
 rintro v48 w48 ⟨rfl, hX48⟩
 exact W.e1 hX48 rfl
 refine And.intro ?_ ?_
 intro L_ wr hX_ hs_ hf_ hd_
 obtain ⟨_, e24, rfl⟩ := hd_ 24 rfl
 obtain ⟨_, e41, rfl⟩ := hd_ 41 rfl
 exact W.s2 (e24 _ rfl) (e41 _ rfl) (W.pickT rfl rfl rfl (W.e0 rfl))
 refine And.intro ?_ ?_
 intro L_ wr hX_ hs_ hf_ hd_
 obtain ⟨_, e42, rfl⟩ := hd_ 42 rfl
 exact W.s1 (e42 _ rfl) (W.assign rfl rfl (W.e0 rfl))
 exact trivial
 intro L_ wr hX1 hs_ hv_
 obtain ⟨_, e43, rfl⟩ := hv_ 43 (by decide)
 refine W.weaken (l' := [(6, _), (0, _), (1, _), (5, _)]) (sc (e43 _ rfl) (sc (hs_ _ _ rfl) (sc (hs_ _ _ rfl) (sc (hs_ _ _ rfl) (Sub.nil))))) ?_
 refine W.nil (At.thenCode (C.ret ?_))
 refine At.ret1 Tryz.results21 rfl ?_
 exact ⟨rfl, hX5.ext hX1⟩
end Go.Proofs.YthiijdbiikljpaaGreat.Mbx
namespace Go.Proofs.YthiijdbiikljpaaGreat.Law23
open Go Go.RowKit Go.Proofs.YthiijdbiikljpaaGreat.KW Go.Proofs.YthiijdbiikljpaaGreat.Words Go.Proofs.YthiijdbiikljpaaGreat.Sha Go.Proofs.YthiijdbiikljpaaGreat.RSha Go.Proofs.YthiijdbiikljpaaGreat.Grp Go.Proofs.YthiijdbiikljpaaGreat.Cod Go.Proofs.YthiijdbiikljpaaGreat.Disk Go.Proofs.YthiijdbiikljpaaGreat.Mbx
set_option linter.unusedVariables false
set_option linter.unusedSimpArgs false
set_option maxRecDepth 100000
theorem EMAct : Elem Tryz.prog 45 42 176 (.agg ([(.int .i64 0), (.int .i64 0), (.int .i64 0), (.int .i64 0), (.slice none 0 0), (.slice none 0 0), (.slice none 0 0), (.slice none 0 0), (.int .u8 0), (.int .u8 0), (.int .u8 0), (.int .u8 0), (.int .u8 0), (.int .u8 0), (.int .u8 0), (.int .u8 0), (.int .u8 0), (.int .u8 0), (.int .u8 0), (.int .u8 0), (.int .u8 0), (.int .u8 0), (.int .u8 0), (.int .u8 0), (.int .u8 0), (.int .u8 0), (.int .u8 0), (.int .u8 0), (.int .u8 0), (.int .u8 0), (.int .u8 0), (.int .u8 0), (.int .u8 0), (.int .u8 0), (.int .u8 0), (.int .u8 0), (.int .u8 0), (.int .u8 0), (.int .u8 0), (.int .u8 0), (.int .i64 0), (.int .i64 0)] : List Value).toArray) := Elem.of (by kernel_rfl) rfl rfl
theorem bigB_len {x : BatD} (ho : BatOk x) (h1 : x.inner.length ≤ 30) (h2 : x.lets.length ≤ 30) (h3 : ∀ p ∈ x.lets, p.2.length ≤ 300) : (batB x).length ≤ 20000 := by
 have h4 := batB_len ho (m := 300) h3
 have h5 : x.lets.length * (32 + 300) ≤ 30 * (32 + 300) := Nat.mul_le_mul_right _ h2
 omega
theorem MailboxPlays_walk (room : Int) (aj : Option Addr) (cj : Nat) (junk : List UInt8) (ao : Option Addr) (c : Nat) (es : List MAct) (w : World) (hr : -9223372036854775808 ≤ room ∧ room ≤ 9223372036854775807) (hj : Bs w aj cj junk) (hjl : junk.length ≤ 9223372036854775807) (hE : Els (fun _ => False) w 42 RMAct ao c es) (hl : es.length ≤ 9223372036854775807) :
   Ct Tryz.prog 3 #[.int .i64 room, .slice aj junk.length cj, .slice ao es.length c] w (LawOk w) := by
 refine Ct.enter [(0, .int .i64 room), (1, .slice aj junk.length cj), (2, .slice ao es.length c)] Tryz.func3 rfl rfl rfl rfl ?_
 refine C.seq (C.region (W.assign rfl rfl (W.nil (At.thenCode (C.seq (C.region ?_))))))
 refine W.call Tryz.call4 rfl (Law23.alive_ok _) rfl ?_
 rintro v17 w17 ⟨rfl, hX17⟩
 refine W.assign rfl rfl (W.nil (At.thenCode (C.seq (C.seq (C.region (W.move rfl rfl ?_))))))
 first | refine W.notD rfl rfl ?_ | refine W.notB rfl rfl ?_
 refine W.move rfl rfl (W.wants rfl rfl rfl rfl (W.move rfl rfl (W.wants rfl rfl rfl rfl (W.lenS rfl Tryz.underlying23 rfl (W.wants rfl rfl rfl rfl (W.gtrI rfl rfl rfl (W.pickF rfl rfl rfl (W.move rfl rfl ?_))))))))
 refine W.splitD (fun g25 => ?_) (fun g25 => ?_)
 refine W.skips rfl rfl rfl rfl rfl rfl (W.skips rfl rfl rfl rfl rfl rfl (W.skips rfl rfl rfl rfl rfl rfl (W.pickT rfl rfl rfl (W.nil (At.thenCode ?_)))))
 refine C.condT rfl ?_
 refine C.seq (C.region (W.move rfl rfl (W.assign rfl rfl (W.nil (At.thenCode (C.ret (At.thenRet ?_)))))))
 refine At.ret1 Tryz.results3 rfl ?_
 first
 | exact ⟨rfl, Ext.below hX57w⟩
 | exact ⟨rfl, Ext.below hDu1.ext⟩
 | exact ⟨rfl, Ext.below hX17⟩
 refine W.wants rfl rfl rfl rfl (W.move rfl rfl (W.wants rfl rfl rfl rfl (W.lenS rfl Tryz.underlying22 rfl (W.wants rfl rfl rfl rfl (W.gtrI rfl rfl rfl (W.pickF rfl rfl rfl (W.nil (At.thenCode ?_))))))))
 refine C.condD rfl (fun c29 => ?_) (fun c29 => ?_)
 refine C.seq (C.region (W.move rfl rfl (W.assign rfl rfl (W.nil (At.thenCode (C.ret (At.thenRet ?_)))))))
 refine At.ret1 Tryz.results3 rfl ?_
 first
 | exact ⟨rfl, Ext.below hX57w⟩
 | exact ⟨rfl, Ext.below hDu1.ext⟩
 | exact ⟨rfl, Ext.below hX17⟩
 have hel : es.length ≤ 25 := by omega
 have hjn : junk.length ≤ 600 := by omega
 obtain ⟨D1, hD1⟩ : ∃ D1, D1 = appD ⟨room.toNat, [], 0, []⟩ junk := ⟨_, rfl⟩
 have hD1l : D1.bs.length ≤ 600 := by
   have := app_len ⟨room.toNat, [], 0, []⟩ junk
   rw [← hD1] at this
   have h2 : (⟨room.toNat, [], 0, []⟩ : Dsk).bs.length = 0 := rfl
   omega
 refine C.skip (At.thenCode (C.seq (C.region (W.move rfl rfl ?_))))
 refine W.call Tryz.call5 rfl (Disk.New_ok room _ hr) rfl ?_
 rintro v32 w32 ⟨dg, rfl, hD32, hX32⟩
 refine W.assign rfl rfl (W.nil (At.thenCode (C.seq (C.region (W.move rfl rfl ?_)))))
 refine W.call Tryz.call6 rfl (Disk.RNew_ok room _ hr) rfl ?_
 rintro v34 w34 ⟨dc, rfl, hD34, hX34⟩
 have hDu34 : Duo w w34 (fun _ => False) (TD dg (max 0 room) ⟨room.toNat, [], 0, []⟩) (TD dc room ⟨room.toNat, [], 0, []⟩) := Duo.new hX17 (fun _ h => h.elim) hD32 hX32 hD34 hX34
 refine W.assign rfl rfl (W.nil (At.thenCode (C.seq (C.region (W.move rfl rfl (W.move rfl rfl ?_))))))
 refine W.call Tryz.call7 rfl (hDu34.Append (by omega) (hj.ext hDu34.ext) (fun ad e hne hf => by have := Sl.blk hj e (by simpa using hne); have := hf.2; omega) (by show 0 + junk.length ≤ _; omega)) rfl ?_
 rintro v37 w37 ⟨rfl, hDu37, hC37⟩
 refine W.nil (At.thenCode (C.seq (C.region (W.move rfl rfl (W.move rfl rfl ?_)))))
 refine W.call Tryz.call8 rfl (hDu37.RAppend (hj.ext hDu37.ext) (fun ad e hne hf => by have := Sl.blk hj e (by simpa using hne); have := hf.2; omega) (by show 0 + junk.length ≤ _; omega)) rfl ?_
 rintro v40 w40 ⟨rfl, hDu40, hC40⟩
 rw [← hD1] at hDu40
 refine W.nil (At.thenCode (C.seq (C.region (W.move rfl rfl ?_))))
 refine W.call Tryz.call9 rfl (hDu40.Open (by omega)) rfl ?_
 rintro v42 w42 ⟨g0, rfl, hDu42, hC42⟩
 refine W.assign rfl rfl (W.nil (At.thenCode (C.seq (C.region (W.move rfl rfl ?_)))))
 refine W.call Tryz.call10 rfl (hDu42.ROpen (by omega)) rfl ?_
 rintro v44 w44 ⟨r0, rfl, hDu44, hC44⟩
 have hol := open_len D1
 refine W.assign rfl rfl (W.nil (At.thenCode (C.seq (C.seq (C.region (W.assign rfl rfl (W.nil (At.thenCode (C.block ?_)))))))))
 refine C.loop (X := Nat × Nat × Nat × Box) (fun x_ => [(2, .slice ao es.length c), (8, .pointer (some ⟨dg, 0, none⟩)), (9, .pointer (some ⟨dc, 0, none⟩)), (10, .pointer (some ⟨x_.2.1, 0, none⟩)), (11, .pointer (some ⟨x_.2.2.1, 0, none⟩)), (12, .int .i64 (x_.1 : Int))]) (fun x_ w1 => x_.1 ≤ es.length ∧ x_.2.2.2.D.bs.length ≤ 600 + 20100 * x_.1 ∧ x_.2.2.2.s.l.length ≤ 600 + 20100 * x_.1 ∧ Duo w w1 (fun _ => False) (TS x_.2.1 dg (max 0 room) x_.2.2.2) (TR x_.2.2.1 dc room x_.2.2.2)) (fun x_ => es.length - x_.1) (0, g0, r0, openB D1) (sc rfl (sc rfl (sc rfl (sc rfl (sc rfl (sc rfl (Sub.nil))))))) ?start1 ?_
 case start1 =>
   show (0) ≤ es.length ∧ (openB D1).D.bs.length ≤ 600 + 20100 * (0) ∧ (openB D1).s.l.length ≤ 600 + 20100 * (0) ∧ Duo w _ (fun _ => False) (TS (g0) dg (max 0 room) (openB D1)) (TR (r0) dc room (openB D1))
   exact ⟨by omega, by omega, by omega, hDu44⟩
 rintro ⟨i, g, gr, B⟩ w1 hI_
 replace hI_ : i ≤ es.length ∧ B.D.bs.length ≤ 600 + 20100 * i ∧ B.s.l.length ≤ 600 + 20100 * i ∧ Duo w w1 (fun _ => False) (TS g dg (max 0 room) B) (TR gr dc room B) := hI_
 obtain ⟨hi, hBl, hBs, hDu1⟩ := hI_
 refine C.weaken (l' := [(2, .slice ao es.length c), (8, .pointer (some ⟨dg, 0, none⟩)), (9, .pointer (some ⟨dc, 0, none⟩)), (10, .pointer (some ⟨g, 0, none⟩)), (11, .pointer (some ⟨gr, 0, none⟩)), (12, .int .i64 (i : Int))]) (sc rfl (sc rfl (sc rfl (sc rfl (sc rfl (sc rfl (Sub.nil))))))) ?_
 refine C.seq (C.seq (C.region (W.move rfl rfl (W.move rfl rfl (W.lenS rfl Tryz.underlying23 rfl (W.lssI rfl rfl rfl (W.nil (At.thenCode ?_))))))))
 refine C.condD rfl (fun c48 => ?_) (fun c48 => ?_)
 have hlt : i < es.length := by omega
 have hX1 : Ext w w1 := hDu1.ext
 refine C.skip (At.thenCode (C.seq (C.block (C.seq (C.region (W.move rfl rfl (W.move rfl rfl ?_)))))))
 refine W.indexE EMAct Tryz.underlying23 rfl ((hE.new rMAct (B := fun k => w.heap.size ≤ k) fun k h1 h2 => absurd h2 (Nat.not_lt.2 h1)).ext rMAct hX1) rfl hlt rfl ?_
 rintro ad53 cs53 hc53 ⟨vi, vl, vp, vf, rfl, hI, hL, hP, hF, hok⟩ hl53
 obtain ⟨p, hp⟩ : ∃ p, p = es[i] := ⟨_, rfl⟩
 rw [← hp] at hI hL hP hF hok hc53 hl53
 try rw [← hp]
 have hone := actC_one hI hL hP hF
 obtain ⟨aP, cP, rfl, hPE⟩ := hP.form
 obtain ⟨aF, cF, rfl, hFz, hFn⟩ := RInts.form hF
 have hbx := hok.bat
 refine W.loadA rfl hc53 Tryz.underlying45 rfl (by rw [hl53]; kernel_rfl) rfl ?_
 refine W.alloc (z := .agg ([(.int .i64 0), (.int .i64 0), (.int .i64 0), (.int .i64 0), (.slice none 0 0), (.slice none 0 0), (.slice none 0 0), (.slice none 0 0), (.int .u8 0), (.int .u8 0), (.int .u8 0), (.int .u8 0), (.int .u8 0), (.int .u8 0), (.int .u8 0), (.int .u8 0), (.int .u8 0), (.int .u8 0), (.int .u8 0), (.int .u8 0), (.int .u8 0), (.int .u8 0), (.int .u8 0), (.int .u8 0), (.int .u8 0), (.int .u8 0), (.int .u8 0), (.int .u8 0), (.int .u8 0), (.int .u8 0), (.int .u8 0), (.int .u8 0), (.int .u8 0), (.int .u8 0), (.int .u8 0), (.int .u8 0), (.int .u8 0), (.int .u8 0), (.int .u8 0), (.int .u8 0), (.int .i64 0), (.int .i64 0)] : List Value).toArray) [(.int .i64 0), (.int .i64 0), (.int .i64 0), (.int .i64 0), (.slice none 0 0), (.slice none 0 0), (.slice none 0 0), (.slice none 0 0), (.int .u8 0), (.int .u8 0), (.int .u8 0), (.int .u8 0), (.int .u8 0), (.int .u8 0), (.int .u8 0), (.int .u8 0), (.int .u8 0), (.int .u8 0), (.int .u8 0), (.int .u8 0), (.int .u8 0), (.int .u8 0), (.int .u8 0), (.int .u8 0), (.int .u8 0), (.int .u8 0), (.int .u8 0), (.int .u8 0), (.int .u8 0), (.int .u8 0), (.int .u8 0), (.int .u8 0), (.int .u8 0), (.int .u8 0), (.int .u8 0), (.int .u8 0), (.int .u8 0), (.int .u8 0), (.int .u8 0), (.int .u8 0), (.int .i64 0), (.int .i64 0)] (by kernel_rfl) rfl rfl ?_
 intro g13 w13 hg13 hX13 hB13
 refine W.storeA (actC p vi vl (.slice aP p.ps.length cP) (.slice aF p.f.length cF)) rfl rfl hB13 (by rw [hl53]; rfl) (by rw [hl53]; kernel_rfl) hone ?_
 intro w14 hC14 hB14
 have hX14 : Ext w1 w14 := hX13.news hC14 fun k hk => Or.inr (by omega)
 have hX14w := hX1.ext hX14
 have hI14 := RdOk.ext rNums hI hX14
 have hL14 := RdOk.ext (rSl 33 rLet) hL hX14
 have hP14 := Els.ext rPub hPE hX14
 have hF14 := Sl.ext hFz hX14
 obtain ⟨Y, hY⟩ : ∃ Y, Y = More (fun _ => False) w1 w14 := ⟨_, rfl⟩
 have hDu14 := hDu1.more hX14
 rw [← hY] at hDu14
 have hYg : Y g13 := by rw [hY]; exact .inr ⟨by omega, hB14.lt⟩
 have hFr : ∀ k, Fr w Y k → w.heap.size ≤ k := fun k hk => hk.2
 refine W.nil (At.thenCode (C.seq (C.region (W.fieldB (off := 2) (size := 4) (t := 39) (Fld.of (by kernel_rfl)) rfl rfl rfl ?_))))
 have hcB : Cells w14 ⟨g13, 2, none⟩ (batC p.x vi vl) := Bk.cellsN (o := 2) (n := 4) hB14
 refine W.loadA rfl hcB Tryz.underlying39 rfl (by kernel_rfl) rfl ?_
 refine W.call Tryz.call11 rfl (Law11.BigBatch_ok p.x _ _ _ (RdOk.new rNums hI14 fun _ h _ => h.elim) (RdOk.new (rSl 33 rLet) hL14 fun _ h _ => h.elim) hok.li hok.ll) rfl ?_
 rintro v57 w57 ⟨big, rfl, hbig, hX57⟩
 have hDu57 := hDu14.xt hX57
 have hB57 := hB14.ext hX57
 have hX57w := hX14w.ext hX57
 have hI57 := RdOk.ext rNums hI14 hX57
 have hL57 := RdOk.ext (rSl 33 rLet) hL14 hX57
 have hP57 := Els.ext rPub hP14 hX57
 have hF57 := Sl.ext hF14 hX57
 have hbm : BatM (Fr w Y) w57 p.x vi vl := ⟨RdOk.new rNums hI57 fun k hk _ => hFr k hk, RdOk.new (rSl 33 rLet) hL57 fun k hk _ => hFr k hk, hbx, hok.li, hok.ll, hok.lb⟩
 have hpm : Els (Fr w Y) w57 10 RPub aP cP p.ps := Els.new rPub hP57 fun k hk _ => hFr k hk
 refine W.assign rfl rfl (W.nil (At.thenCode (C.seq (C.seq (C.region (W.move rfl rfl (W.move rfl rfl ?_)))))))
 first | refine W.splitD (fun g59 => ?_) (fun g59 => ?_) | refine W.splitB (fun g59 => ?_) (fun g59 => ?_)
 refine W.skips rfl rfl rfl rfl rfl rfl (W.skips rfl rfl rfl rfl rfl rfl (W.skips rfl rfl rfl rfl rfl rfl (W.skips rfl rfl rfl rfl rfl rfl (W.pickT rfl rfl rfl (W.move rfl rfl (W.skips rfl rfl rfl rfl rfl rfl (W.skips rfl rfl rfl rfl rfl rfl (W.skips rfl rfl rfl rfl rfl rfl (W.skips rfl rfl rfl rfl rfl rfl (W.pickT rfl rfl rfl (W.nil ?_)))))))))))
 refine At.thenCode ?_
 refine C.condT rfl ?_
 refine C.seq (C.region (W.assign rfl rfl (W.nil (At.thenCode (C.ret (At.thenRet (At.blockRet (At.thenRet (At.thenRet (At.blockRet (At.thenRet ?_)))))))))))
 refine At.ret1 Tryz.results3 rfl ?_
 first
 | exact ⟨rfl, Ext.below hX57w⟩
 | exact ⟨rfl, Ext.below hDu1.ext⟩
 | exact ⟨rfl, Ext.below hX17⟩
 refine W.wants rfl rfl rfl rfl (W.fieldB (off := 6) (size := 1) (t := 40) (Fld.of (by kernel_rfl)) rfl rfl rfl (W.wants rfl rfl rfl rfl ?_))
 refine W.loadB (v := .slice aP p.ps.length cP) rfl Tryz.underlying40 rfl hB57 rfl rfl ?_
 refine W.wants rfl rfl rfl rfl (W.lenS rfl Tryz.underlying40 rfl (W.wants rfl rfl rfl rfl (W.gtrI rfl rfl rfl (W.pickF rfl rfl rfl (W.move rfl rfl ?_)))))
 refine W.splitD (fun g65 => ?_) (fun g65 => ?_)
 refine W.skips rfl rfl rfl rfl rfl rfl (W.skips rfl rfl rfl rfl rfl rfl (W.skips rfl rfl rfl rfl rfl rfl (W.skips rfl rfl rfl rfl rfl rfl (W.pickT rfl rfl rfl (W.nil (At.thenCode ?_))))))
 refine C.condT rfl ?_
 refine C.seq (C.region (W.assign rfl rfl (W.nil (At.thenCode (C.ret (At.thenRet (At.blockRet (At.thenRet (At.thenRet (At.blockRet (At.thenRet ?_)))))))))))
 refine At.ret1 Tryz.results3 rfl ?_
 first
 | exact ⟨rfl, Ext.below hX57w⟩
 | exact ⟨rfl, Ext.below hDu1.ext⟩
 | exact ⟨rfl, Ext.below hX17⟩
 refine W.wants rfl rfl rfl rfl (W.fieldB (off := 7) (size := 1) (t := 41) (Fld.of (by kernel_rfl)) rfl rfl rfl (W.wants rfl rfl rfl rfl ?_))
 refine W.loadB (v := .slice aF p.f.length cF) rfl Tryz.underlying41 rfl hB57 rfl rfl ?_
 refine W.wants rfl rfl rfl rfl (W.lenS rfl Tryz.underlying41 rfl (W.wants rfl rfl rfl rfl (W.gtrI rfl rfl rfl (W.pickF rfl rfl rfl (W.nil (At.thenCode ?_))))))
 refine C.condD rfl (fun c70 => ?_) (fun c70 => ?_)
 refine C.seq (C.region (W.assign rfl rfl (W.nil (At.thenCode (C.ret (At.thenRet (At.blockRet (At.thenRet (At.thenRet (At.blockRet (At.thenRet ?_)))))))))))
 refine At.ret1 Tryz.results3 rfl ?_
 first
 | exact ⟨rfl, Ext.below hX57w⟩
 | exact ⟨rfl, Ext.below hDu1.ext⟩
 | exact ⟨rfl, Ext.below hX17⟩
 obtain ⟨hs30, hs31, hs300⟩ := hbig (by simpa using g59)
 have hpl : p.ps.length ≤ 25 := by omega
 have hfl : p.f.length ≤ 30 := by omega
 have hbl := bigB_len hbx hs30 hs31 hs300
 refine C.skip (At.thenCode (C.seq (C.region (W.assign rfl rfl (W.nil (At.thenCode (C.seq (C.region (W.assign rfl rfl (W.nil (At.thenCode ?_)))))))))))
 refine C.seq (C.seq (C.region (W.fieldB (off := 0) (size := 1) (t := 3) (Fld.of (by kernel_rfl)) rfl rfl rfl ?_)))
 refine W.loadB (v := .int .i64 p.way) rfl Tryz.underlying3 rfl hB57 rfl rfl ?_
 refine W.nil (At.thenCode ?_)
 refine C.mid (X := Nat × Nat × Nat × Box) (fun x_ => [(2, .slice ao es.length c), (8, .pointer (some ⟨dg, 0, none⟩)), (9, .pointer (some ⟨dc, 0, none⟩)), (10, .pointer (some ⟨x_.2.1, 0, none⟩)), (11, .pointer (some ⟨x_.2.2.1, 0, none⟩)), (12, .int .i64 (i : Int)), (13, .pointer (some ⟨g13, 0, none⟩)), (15, .int .i64 (x_.1 : Int)), (16, .int .i64 (x_.1 : Int))]) (fun x_ wm => x_.2.2.2.D.bs.length ≤ 600 + 20100 * (i + 1) ∧ x_.2.2.2.s.l.length ≤ 600 + 20100 * (i + 1) ∧ Duo w wm Y (TS x_.2.1 dg (max 0 room) x_.2.2.2) (TR x_.2.2.1 dc room x_.2.2.2) ∧ Bk wm g13 (actC p vi vl (.slice aP p.ps.length cP) (.slice aF p.f.length cF))) ?_ ?_
 refine C.block (C.seq (C.region (W.eqlI rfl rfl rfl (W.assign rfl rfl (W.nil (At.thenCode ?_))))))
 refine C.condD rfl (fun c73 => ?_) (fun c73 => ?_)
 refine C.seq (C.region (W.move rfl rfl (W.fieldB (off := 2) (size := 4) (t := 39) (Fld.of (by kernel_rfl)) rfl rfl rfl ?_)))
 have hcB2 : Cells w57 ⟨g13, 2, none⟩ (batC p.x vi vl) := Bk.cellsN (o := 2) (n := 4) hB57
 refine W.loadA rfl hcB2 Tryz.underlying39 rfl (by kernel_rfl) rfl ?_
 refine W.fieldB (off := 6) (size := 1) (t := 40) (Fld.of (by kernel_rfl)) rfl rfl rfl ?_
 refine W.loadB (v := .slice aP p.ps.length cP) rfl Tryz.underlying40 rfl hB57 rfl rfl ?_
 refine W.call Tryz.call12 rfl (hDu57.Accept (by omega) hbm (Els.new rPub hpm fun _ h _ => h.elim) (by omega) (by omega) (by omega) (by omega)) rfl ?_
 rintro v80 w80 ⟨rfl, hDu80, hC80⟩
 have hB80 := hB57.chg hC80 (fun hf => hf.1 hYg)
 have hbm80 := hbm.chg hC80
 have hpm80 := Els.chg rPub hpm hC80
 refine W.assign rfl rfl (W.nil (At.thenCode (C.region (W.move rfl rfl (W.fieldB (off := 2) (size := 4) (t := 39) (Fld.of (by kernel_rfl)) rfl rfl rfl ?_)))))
 have hcB3 : Cells w80 ⟨g13, 2, none⟩ (batC p.x vi vl) := Bk.cellsN (o := 2) (n := 4) hB80
 refine W.loadA rfl hcB3 Tryz.underlying39 rfl (by kernel_rfl) rfl ?_
 refine W.fieldB (off := 6) (size := 1) (t := 40) (Fld.of (by kernel_rfl)) rfl rfl rfl ?_
 refine W.loadB (v := .slice aP p.ps.length cP) rfl Tryz.underlying40 rfl hB80 rfl rfl ?_
 refine W.call Tryz.call13 rfl (hDu80.RAccept hbm80 (Els.new rPub hpm80 fun _ h _ => h.elim) (by omega) (by omega) (by omega) (by omega)) rfl ?_
 rintro v86 w86 ⟨rfl, hDu86, hC86⟩
 refine W.assign rfl rfl (W.nil (At.blockNormal ?_))
 refine At.thenMid (acceptE B p.x p.ps, g, gr, acceptB B p.x p.ps) (sc rfl (sc rfl (sc rfl (sc rfl (sc rfl (sc rfl (sc rfl (sc rfl (sc rfl (Sub.nil)))))))))) (show (acceptB B p.x p.ps).D.bs.length ≤ 600 + 20100 * (i + 1) ∧ (acceptB B p.x p.ps).s.l.length ≤ 600 + 20100 * (i + 1) ∧ Duo w _ Y (TS (g) dg (max 0 room) (acceptB B p.x p.ps)) (TR (gr) dc room (acceptB B p.x p.ps)) ∧ Bk _ g13 (actC p vi vl (.slice aP p.ps.length cP) (.slice aF p.f.length cF)) from ?_)
 have hal := accept_len B p.x p.ps
 exact ⟨by omega, by omega, hDu86, hB80.chg hC86 (fun hf => hf.1 hYg)⟩
 refine C.seq (C.region (W.eqlI rfl rfl rfl (W.assign rfl rfl (W.nil (At.thenCode ?_)))))
 refine C.condD rfl (fun c87 => ?_) (fun c87 => ?_)
 refine C.seq (C.region (W.move rfl rfl (W.fieldB (off := 1) (size := 1) (t := 3) (Fld.of (by kernel_rfl)) rfl rfl rfl ?_)))
 refine W.loadB (v := .int .i64 p.n) rfl Tryz.underlying3 rfl hB57 rfl rfl ?_
 refine W.call Tryz.call14 rfl (hDu57.Expire (by omega) (by omega) (by omega) hok.n) rfl ?_
 rintro v92 w92 ⟨rfl, hDu92, hC92⟩
 have hB92 := hB57.chg hC92 (fun hf => hf.1 hYg)
 refine W.assign rfl rfl (W.nil (At.thenCode (C.region (W.move rfl rfl (W.fieldB (off := 1) (size := 1) (t := 3) (Fld.of (by kernel_rfl)) rfl rfl rfl ?_)))))
 refine W.loadB (v := .int .i64 p.n) rfl Tryz.underlying3 rfl hB92 rfl rfl ?_
 refine W.call Tryz.call15 rfl (hDu92.RExpire (by omega) (by omega) hok.n) rfl ?_
 rintro v96 w96 ⟨rfl, hDu96, hC96⟩
 refine W.assign rfl rfl (W.nil (At.blockNormal ?_))
 refine At.thenMid (expireE B p.n, g, gr, expireB B p.n) (sc rfl (sc rfl (sc rfl (sc rfl (sc rfl (sc rfl (sc rfl (sc rfl (sc rfl (Sub.nil)))))))))) (show (expireB B p.n).D.bs.length ≤ 600 + 20100 * (i + 1) ∧ (expireB B p.n).s.l.length ≤ 600 + 20100 * (i + 1) ∧ Duo w _ Y (TS (g) dg (max 0 room) (expireB B p.n)) (TR (gr) dc room (expireB B p.n)) ∧ Bk _ g13 (actC p vi vl (.slice aP p.ps.length cP) (.slice aF p.f.length cF)) from ?_)
 have hxl := expire_len B p.n
 exact ⟨by omega, by omega, hDu96, hB92.chg hC96 (fun hf => hf.1 hYg)⟩
 refine C.seq (C.region (W.eqlI rfl rfl rfl (W.assign rfl rfl (W.nil (At.thenCode ?_)))))
 refine C.condD rfl (fun c97 => ?_) (fun c97 => ?_)
 refine C.seq (C.region (W.move rfl rfl (W.fieldB (off := 1) (size := 1) (t := 3) (Fld.of (by kernel_rfl)) rfl rfl rfl ?_)))
 refine W.loadB (v := .int .i64 p.n) rfl Tryz.underlying3 rfl hB57 rfl rfl ?_
 have hcl := Mbx.crash_len B.D p.n
 have hol2 := open_len (crashD B.D p.n)
 refine W.call Tryz.call16 rfl (hDu57.diskL.diskR.Crash p.n) rfl ?_
 rintro v102 w102 ⟨hDu102, hC102⟩
 have hB102 := hB57.chg hC102 (fun hf => hf.1 hYg)
 refine W.nil (At.thenCode (C.seq (C.region (W.move rfl rfl (W.fieldB (off := 1) (size := 1) (t := 3) (Fld.of (by kernel_rfl)) rfl rfl rfl ?_)))))
 refine W.loadB (v := .int .i64 p.n) rfl Tryz.underlying3 rfl hB102 rfl rfl ?_
 refine W.call Tryz.call17 rfl (hDu102.RCrash p.n) rfl ?_
 rintro v106 w106 ⟨hDu106, hC106⟩
 have hB106 := hB102.chg hC106 (fun hf => hf.1 hYg)
 refine W.nil (At.thenCode (C.seq (C.region (W.move rfl rfl ?_))))
 refine W.call Tryz.call9 rfl (hDu106.Open (by omega)) rfl ?_
 rintro v108 w108 ⟨g3, rfl, hDu108, hC108⟩
 have hB108 := hB106.chg hC108 (fun hf => hf.1 hYg)
 refine W.assign rfl rfl (W.nil (At.thenCode (C.region (W.move rfl rfl ?_))))
 refine W.call Tryz.call10 rfl (hDu108.ROpen (by omega)) rfl ?_
 rintro v110 w110 ⟨r3, rfl, hDu110, hC110⟩
 refine W.assign rfl rfl (W.nil (At.blockNormal ?_))
 refine At.thenMid (0, g3, r3, openB (crashD B.D p.n)) (sc rfl (sc rfl (sc rfl (sc rfl (sc rfl (sc rfl (sc rfl (sc rfl (sc rfl (Sub.nil)))))))))) (show (openB (crashD B.D p.n)).D.bs.length ≤ 600 + 20100 * (i + 1) ∧ (openB (crashD B.D p.n)).s.l.length ≤ 600 + 20100 * (i + 1) ∧ Duo w _ Y (TS (g3) dg (max 0 room) (openB (crashD B.D p.n))) (TR (r3) dc room (openB (crashD B.D p.n))) ∧ Bk _ g13 (actC p vi vl (.slice aP p.ps.length cP) (.slice aF p.f.length cF)) from ?_)
 exact ⟨by omega, by omega, hDu110, hB108.chg hC110 (fun hf => hf.1 hYg)⟩
 refine C.seq (C.region (W.eqlI rfl rfl rfl (W.assign rfl rfl (W.nil (At.thenCode ?_)))))
 refine C.condD rfl (fun c111 => ?_) (fun c111 => ?_)
 refine C.seq (C.region (W.move rfl rfl ?_))
 have hol3 := open_len B.D
 refine W.call Tryz.call9 rfl (hDu57.diskL.diskR.Open (by omega)) rfl ?_
 rintro v114 w114 ⟨g3, rfl, hDu114, hC114⟩
 have hB114 := hB57.chg hC114 (fun hf => hf.1 hYg)
 refine W.assign rfl rfl (W.nil (At.thenCode (C.region (W.move rfl rfl ?_))))
 refine W.call Tryz.call10 rfl (hDu114.ROpen (by omega)) rfl ?_
 rintro v116 w116 ⟨r3, rfl, hDu116, hC116⟩
 refine W.assign rfl rfl (W.nil (At.blockNormal ?_))
 refine At.thenMid (0, g3, r3, openB B.D) (sc rfl (sc rfl (sc rfl (sc rfl (sc rfl (sc rfl (sc rfl (sc rfl (sc rfl (Sub.nil)))))))))) (show (openB B.D).D.bs.length ≤ 600 + 20100 * (i + 1) ∧ (openB B.D).s.l.length ≤ 600 + 20100 * (i + 1) ∧ Duo w _ Y (TS (g3) dg (max 0 room) (openB B.D)) (TR (r3) dc room (openB B.D)) ∧ Bk _ g13 (actC p vi vl (.slice aP p.ps.length cP) (.slice aF p.f.length cF)) from ?_)
 exact ⟨by omega, by omega, hDu116, hB114.chg hC116 (fun hf => hf.1 hYg)⟩
 refine C.seq (C.region (W.eqlI rfl rfl rfl (W.assign rfl rfl (W.nil (At.thenCode ?_)))))
 refine C.condD rfl (fun c117 => ?_) (fun c117 => ?_)
 refine C.seq (C.region (W.move rfl rfl (W.fieldB (off := 7) (size := 1) (t := 41) (Fld.of (by kernel_rfl)) rfl rfl rfl ?_)))
 refine W.loadB (v := .slice aF p.f.length cF) rfl Tryz.underlying41 rfl hB57 rfl rfl ?_
 refine W.call Tryz.call18 rfl (hDu57.Fail hF57 (by omega)) rfl ?_
 rintro v122 w122 ⟨hDu122, hC122⟩
 have hB122 := hB57.chg hC122 (fun hf => hf.1 hYg)
 have hF122 : Zs w122 aF cF p.f := Sl.chg hF57 hC122 fun ad e hne hf => hFn ad e (fun h => hne (by rw [h]; rfl)) (hFr _ hf)
 refine W.nil (At.thenCode (C.region (W.move rfl rfl (W.fieldB (off := 7) (size := 1) (t := 41) (Fld.of (by kernel_rfl)) rfl rfl rfl ?_))))
 refine W.loadB (v := .slice aF p.f.length cF) rfl Tryz.underlying41 rfl hB122 rfl rfl ?_
 refine W.call Tryz.call19 rfl (hDu122.RFail hF122 (by omega)) rfl ?_
 rintro v126 w126 ⟨hDu126, hC126⟩
 refine W.nil (At.blockNormal ?_)
 refine At.thenMid (0, g, gr, (⟨setFails B.D p.f, B.s, B.owed⟩ : Box)) (sc rfl (sc rfl (sc rfl (sc rfl (sc rfl (sc rfl (sc rfl (sc rfl (sc rfl (Sub.nil)))))))))) (show ((⟨setFails B.D p.f, B.s, B.owed⟩ : Box)).D.bs.length ≤ 600 + 20100 * (i + 1) ∧ ((⟨setFails B.D p.f, B.s, B.owed⟩ : Box)).s.l.length ≤ 600 + 20100 * (i + 1) ∧ Duo w _ Y (TS (g) dg (max 0 room) ((⟨setFails B.D p.f, B.s, B.owed⟩ : Box))) (TR (gr) dc room ((⟨setFails B.D p.f, B.s, B.owed⟩ : Box))) ∧ Bk _ g13 (actC p vi vl (.slice aP p.ps.length cP) (.slice aF p.f.length cF)) from ?_)
 exact ⟨by show B.D.bs.length ≤ _; omega, by show B.s.l.length ≤ _; omega, hDu126, hB122.chg hC126 (fun hf => hf.1 hYg)⟩
 refine C.skip (At.blockNormal ?_)
 refine At.thenMid (0, g, gr, B) (sc rfl (sc rfl (sc rfl (sc rfl (sc rfl (sc rfl (sc rfl (sc rfl (sc rfl (Sub.nil)))))))))) (show (B).D.bs.length ≤ 600 + 20100 * (i + 1) ∧ (B).s.l.length ≤ 600 + 20100 * (i + 1) ∧ Duo w _ Y (TS (g) dg (max 0 room) (B)) (TR (gr) dc room (B)) ∧ Bk _ g13 (actC p vi vl (.slice aP p.ps.length cP) (.slice aF p.f.length cF)) from ?_)
 exact ⟨by omega, by omega, hDu57, hB57⟩
 rintro ⟨e, g2, gr2, B2⟩ wm hI_
 replace hI_ : B2.D.bs.length ≤ 600 + 20100 * (i + 1) ∧ B2.s.l.length ≤ 600 + 20100 * (i + 1) ∧ Duo w wm Y (TS g2 dg (max 0 room) B2) (TR gr2 dc room B2) ∧ Bk wm g13 (actC p vi vl (.slice aP p.ps.length cP) (.slice aF p.f.length cF)) := hI_
 obtain ⟨hBl2, hBs2, hDum, hBm⟩ := hI_
 refine C.weaken (l' := [(2, .slice ao es.length c), (8, .pointer (some ⟨dg, 0, none⟩)), (9, .pointer (some ⟨dc, 0, none⟩)), (10, .pointer (some ⟨g2, 0, none⟩)), (11, .pointer (some ⟨gr2, 0, none⟩)), (12, .int .i64 (i : Int)), (13, .pointer (some ⟨g13, 0, none⟩)), (15, .int .i64 (e : Int)), (16, .int .i64 (e : Int))]) (sc rfl (sc rfl (sc rfl (sc rfl (sc rfl (sc rfl (sc rfl (sc rfl (sc rfl (Sub.nil)))))))))) ?_
 refine C.seq ?_
 refine C.regionAny 24 (E_ (.pointer (some ⟨g2, 0, none⟩)) :: E_ (.bool false) :: E_ (.bool false) :: E_ (.int .i64 (e : Int)) :: E_ (.int .i64 (e : Int)) :: E_ (.int .i64 (e : Int)) :: E_ (.bool false) :: E_ (.bool false) :: E_ (.bool false) :: E_ (.pointer (some ⟨g2, 0, none⟩)) :: E_ (.pointer (some ⟨gr2, 0, none⟩)) :: E_ (.agg (actC p vi vl (.slice aP p.ps.length cP) (.slice aF p.f.length cF)).toArray) :: E_ (.bool true) :: E_ (.bool false) :: E_ (.bool false) :: E_ (.bool false) :: E_ (.pointer (some ⟨dg, 0, none⟩)) :: (fun v w => Rep w v B2.D.bs) :: E_ (strV B2.D.bs) :: E_ (.pointer (some ⟨dc, 0, none⟩)) :: (fun v w => Rep w v B2.D.bs) :: E_ (strV B2.D.bs) :: E_ (.bool false) :: E_ (.bool false) :: []) [(2, .slice ao es.length c), (8, .pointer (some ⟨dg, 0, none⟩)), (9, .pointer (some ⟨dc, 0, none⟩)), (10, .pointer (some ⟨g2, 0, none⟩)), (11, .pointer (some ⟨gr2, 0, none⟩)), (12, .int .i64 (i : Int)), (13, .pointer (some ⟨g13, 0, none⟩)), (15, .int .i64 (e : Int)), (16, .int .i64 (e : Int))] [] (sc rfl (sc rfl (sc rfl (sc rfl (sc rfl (sc rfl (sc rfl (sc rfl (sc rfl (Sub.nil)))))))))) (Sub.nil) (sc rfl (sc rfl (sc rfl (sc rfl (sc rfl (sc rfl (sc rfl (sc rfl (sc rfl (Sub.nil)))))))))) (by kernel_rfl) rfl rfl rfl (sN (sN (sN (sN (sN (sN (sN (sN (sN (sN (sN (sN (sN (sN (sN (sN (sN (sM (fun _ _ _ h g => Rep.ext h g) (sN (sN (sM (fun _ _ _ h g => Rep.ext h g) (sN (sN (sN (trivial))))))))))))))))))))))))) ?_ ?_
 refine And.intro (mB rfl rfl (fun _ => rfl) rfl) ?_
 refine And.intro ?_ ?_
 intro L_ wr hX_ hs_ hf_ hd_
 obtain ⟨_, e0, rfl⟩ := hd_ 0 rfl
 refine W.s1 (e0 _ rfl) ?_
 refine W.eqlPtr rfl rfl rfl rfl ?_
 exact W.e0 rfl
 refine And.intro ?_ ?_
 intro L_ wr hX_ hs_ hf_ hd_
 obtain ⟨_, e1, rfl⟩ := hd_ 1 rfl
 exact W.s1 (e1 _ rfl) (W.move rfl rfl (W.e0 rfl))
 refine And.intro ?_ ?_
 intro L_ wr hX_ hs_ hf_ hd_
 obtain ⟨_, e2, rfl⟩ := hd_ 2 rfl
 exact W.s2 (hs_ 15 _ rfl) (e2 _ rfl) (W.wants rfl rfl rfl rfl (W.move rfl rfl (W.e0 rfl)))
 refine And.intro ?_ ?_
 intro L_ wr hX_ hs_ hf_ hd_
 obtain ⟨_, e3, rfl⟩ := hd_ 3 rfl
 obtain ⟨_, e2, rfl⟩ := hd_ 2 rfl
 refine W.s2 (e3 _ rfl) (e2 _ rfl) (W.wants rfl rfl rfl rfl ?_)
 refine W.call Tryz.call20 rfl (Law23.num_ok _ _) rfl ?_
 rintro v131 w131 ⟨rfl, rfl⟩
 exact W.e0 rfl
 refine And.intro ?_ ?_
 intro L_ wr hX_ hs_ hf_ hd_
 obtain ⟨_, e2, rfl⟩ := hd_ 2 rfl
 exact W.s2 (hs_ 16 _ rfl) (e2 _ rfl) (W.wants rfl rfl rfl rfl (W.move rfl rfl (W.e0 rfl)))
 refine And.intro ?_ ?_
 intro L_ wr hX_ hs_ hf_ hd_
 obtain ⟨_, e4, rfl⟩ := hd_ 4 rfl
 obtain ⟨_, e5, rfl⟩ := hd_ 5 rfl
 obtain ⟨_, e2, rfl⟩ := hd_ 2 rfl
 refine W.s3 (e4 _ rfl) (e5 _ rfl) (e2 _ rfl) (W.wants rfl rfl rfl rfl (W.neqI rfl rfl rfl ?_))
 refine W.eqv (bF (fun h => h rfl)) ?_
 exact W.e0 rfl
 refine And.intro ?_ ?_
 intro L_ wr hX_ hs_ hf_ hd_
 obtain ⟨_, e2, rfl⟩ := hd_ 2 rfl
 obtain ⟨_, e6, rfl⟩ := hd_ 6 rfl
 exact W.s2 (e2 _ rfl) (e6 _ rfl) (W.pickF rfl rfl rfl (W.e0 rfl))
 refine And.intro ?_ ?_
 intro L_ wr hX_ hs_ hf_ hd_
 obtain ⟨_, e7, rfl⟩ := hd_ 7 rfl
 exact W.s1 (e7 _ rfl) (W.move rfl rfl (W.e0 rfl))
 refine And.intro ?_ ?_
 intro L_ wr hX_ hs_ hf_ hd_
 obtain ⟨_, e8, rfl⟩ := hd_ 8 rfl
 exact W.s2 (hs_ 10 _ rfl) (e8 _ rfl) (W.wants rfl rfl rfl rfl (W.move rfl rfl (W.e0 rfl)))
 refine And.intro ?_ ?_
 intro L_ wr hX_ hs_ hf_ hd_
 obtain ⟨_, e8, rfl⟩ := hd_ 8 rfl
 exact W.s2 (hs_ 11 _ rfl) (e8 _ rfl) (W.wants rfl rfl rfl rfl (W.move rfl rfl (W.e0 rfl)))
 refine And.intro ?_ ?_
 intro L_ wr hX_ hs_ hf_ hd_
 obtain ⟨_, e8, rfl⟩ := hd_ 8 rfl
 refine W.s2 (hs_ 13 _ rfl) (e8 _ rfl) (W.wants rfl rfl rfl rfl ?_)
 refine W.loadA rfl ((hBm.ext hX_).cells (o := 0)) Tryz.underlying45 rfl (by rw [List.drop_zero, actC_length hok.key]; kernel_rfl) rfl ?_
 rw [List.drop_zero]
 exact W.e0 rfl
 refine And.intro ?_ ?_
 intro L_ wr hX_ hs_ hf_ hd_
 obtain ⟨_, e9, rfl⟩ := hd_ 9 rfl
 obtain ⟨_, e10, rfl⟩ := hd_ 10 rfl
 obtain ⟨_, e11, rfl⟩ := hd_ 11 rfl
 obtain ⟨_, e8, rfl⟩ := hd_ 8 rfl
 refine W.step [(136, _), (137, _), (138, _), (135, _)] (Sub.cons (e9 _ rfl) (Sub.cons (e10 _ rfl) (Sub.cons (e11 _ rfl) (Sub.cons (e8 _ rfl) (Sub.refl _))))) ?_
 refine W.wants rfl rfl rfl rfl ?_
 refine W.call Tryz.call21 rfl (Mbx.same_ok (hDum.xt hX_) p vi vl _ _ hok (by omega)) rfl ?_
 rintro v139 w139 ⟨rfl, hX139⟩
 exact W.e1 hX139 rfl
 refine And.intro ?_ ?_
 intro L_ wr hX_ hs_ hf_ hd_
 obtain ⟨_, e12, rfl⟩ := hd_ 12 rfl
 obtain ⟨_, e8, rfl⟩ := hd_ 8 rfl
 refine W.s2 (e12 _ rfl) (e8 _ rfl) (W.wants rfl rfl rfl rfl ?_)
 first | refine W.notD rfl rfl ?_ | refine W.notB rfl rfl ?_
 exact W.e0 rfl
 refine And.intro ?_ ?_
 intro L_ wr hX_ hs_ hf_ hd_
 obtain ⟨_, e8, rfl⟩ := hd_ 8 rfl
 obtain ⟨_, e13, rfl⟩ := hd_ 13 rfl
 exact W.s2 (e8 _ rfl) (e13 _ rfl) (W.pickF rfl rfl rfl (W.e0 rfl))
 refine And.intro ?_ ?_
 intro L_ wr hX_ hs_ hf_ hd_
 obtain ⟨_, e14, rfl⟩ := hd_ 14 rfl
 exact W.s1 (e14 _ rfl) (W.move rfl rfl (W.e0 rfl))
 refine And.intro ?_ ?_
 intro L_ wr hX_ hs_ hf_ hd_
 obtain ⟨_, e15, rfl⟩ := hd_ 15 rfl
 exact W.s2 (hs_ 8 _ rfl) (e15 _ rfl) (W.wants rfl rfl rfl rfl (W.move rfl rfl (W.e0 rfl)))
 refine And.intro ?_ ?_
 intro L_ wr hX_ hs_ hf_ hd_
 obtain ⟨_, e16, rfl⟩ := hd_ 16 rfl
 obtain ⟨_, e15, rfl⟩ := hd_ 15 rfl
 refine W.s2 (e16 _ rfl) (e15 _ rfl) (W.wants rfl rfl rfl rfl ?_)
 refine W.call Tryz.call22 rfl (hDum.xt hX_).diskL.Bytes rfl ?_
 rintro v144 w144 ⟨⟨a144, c144, rfl, hS144, _⟩, hX144⟩
 exact W.e1 hX144 ⟨_, _, rfl, hS144⟩
 refine And.intro ?_ ?_
 intro L_ wr hX_ hs_ hf_ hd_
 obtain ⟨v17, e17, r17⟩ := hd_ 17 rfl
 obtain ⟨a17, c17, rfl, hS17⟩ := r17
 obtain ⟨_, e15, rfl⟩ := hd_ 15 rfl
 refine W.s2 (e17 _ rfl) (e15 _ rfl) (W.wants rfl rfl rfl rfl ?_)
 refine W.bytesStr Tryz.underlying22 Tryz.underlying5 Tryz.underlying9 rfl hS17 rfl ?_
 exact W.e0 rfl
 refine And.intro ?_ ?_
 intro L_ wr hX_ hs_ hf_ hd_
 obtain ⟨_, e15, rfl⟩ := hd_ 15 rfl
 exact W.s2 (hs_ 9 _ rfl) (e15 _ rfl) (W.wants rfl rfl rfl rfl (W.move rfl rfl (W.e0 rfl)))
 refine And.intro ?_ ?_
 intro L_ wr hX_ hs_ hf_ hd_
 obtain ⟨_, e19, rfl⟩ := hd_ 19 rfl
 obtain ⟨_, e15, rfl⟩ := hd_ 15 rfl
 refine W.s2 (e19 _ rfl) (e15 _ rfl) (W.wants rfl rfl rfl rfl ?_)
 refine W.call Tryz.call23 rfl (hDum.xt hX_).diskR.RBytes rfl ?_
 rintro v147 w147 ⟨⟨a147, c147, rfl, hS147, _⟩, hX147⟩
 exact W.e1 hX147 ⟨_, _, rfl, hS147⟩
 refine And.intro ?_ ?_
 intro L_ wr hX_ hs_ hf_ hd_
 obtain ⟨v20, e20, r20⟩ := hd_ 20 rfl
 obtain ⟨a20, c20, rfl, hS20⟩ := r20
 obtain ⟨_, e15, rfl⟩ := hd_ 15 rfl
 refine W.s2 (e20 _ rfl) (e15 _ rfl) (W.wants rfl rfl rfl rfl ?_)
 refine W.bytesStr Tryz.underlying22 Tryz.underlying5 Tryz.underlying9 rfl hS20 rfl ?_
 exact W.e0 rfl
 refine And.intro ?_ ?_
 intro L_ wr hX_ hs_ hf_ hd_
 obtain ⟨_, e18, rfl⟩ := hd_ 18 rfl
 obtain ⟨_, e21, rfl⟩ := hd_ 21 rfl
 obtain ⟨_, e15, rfl⟩ := hd_ 15 rfl
 refine W.s3 (e18 _ rfl) (e21 _ rfl) (e15 _ rfl) (W.wants rfl rfl rfl rfl ?_)
 refine W.neqStr rfl rfl rfl ?_
 refine W.eqv (bF (fun h => h rfl)) ?_
 exact W.e0 rfl
 refine And.intro ?_ ?_
 intro L_ wr hX_ hs_ hf_ hd_
 obtain ⟨_, e15, rfl⟩ := hd_ 15 rfl
 obtain ⟨_, e22, rfl⟩ := hd_ 22 rfl
 exact W.s2 (e15 _ rfl) (e22 _ rfl) (W.pickF rfl rfl rfl (W.e0 rfl))
 exact trivial
 intro L_ wr hX37 hs_ hv_
 obtain ⟨_, e23, rfl⟩ := hv_ 23 (by decide)
 refine W.weaken (l' := [(150, _), (2, _), (8, _), (9, _), (10, _), (11, _), (12, _), (13, _), (15, _), (16, _)]) (sc (e23 _ rfl) (sc (hs_ _ _ rfl) (sc (hs_ _ _ rfl) (sc (hs_ _ _ rfl) (sc (hs_ _ _ rfl) (sc (hs_ _ _ rfl) (sc (hs_ _ _ rfl) (sc (hs_ _ _ rfl) (sc (hs_ _ _ rfl) (sc (hs_ _ _ rfl) (Sub.nil))))))))))) ?_
 refine W.nil (At.thenCode ?_)
 refine C.condF rfl ?_
 refine C.skip (At.blockNormal (At.thenCode (C.region (W.move rfl rfl ?_))))
 refine W.addI rfl rfl (by omega) rfl ?_
 refine W.assign rfl rfl (W.nil ?_)
 refine At.thenRound (i + 1, g2, gr2, B2) (sc rfl (sc rfl (sc rfl (sc rfl (sc rfl (sc (look_eq rfl (iV (by omega))) (Sub.nil))))))) (show (i + 1) ≤ es.length ∧ (B2).D.bs.length ≤ 600 + 20100 * (i + 1) ∧ (B2).s.l.length ≤ 600 + 20100 * (i + 1) ∧ Duo w _ (fun _ => False) (TS (g2) dg (max 0 room) (B2)) (TR (gr2) dc room (B2)) from ?_) (show es.length - (i + 1) < es.length - i from ?_)
 exact ⟨by omega, by omega, by omega, (hDum.xt hX37).less fun _ h => h.elim⟩
 omega
 refine C.exit (At.thenExit (At.thenExit (At.blockSelf (At.thenCode (C.seq (C.region (W.assign rfl rfl (W.nil (At.thenCode (C.ret ?_))))))))))
 refine At.ret1 Tryz.results3 rfl ?_
 first
 | exact ⟨rfl, Ext.below hX57w⟩
 | exact ⟨rfl, Ext.below hDu1.ext⟩
 | exact ⟨rfl, Ext.below hX17⟩
end Go.Proofs.YthiijdbiikljpaaGreat.Law23
