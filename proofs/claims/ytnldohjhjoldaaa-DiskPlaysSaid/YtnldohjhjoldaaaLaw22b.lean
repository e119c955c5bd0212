/- The walk of chapter 22's law on plays. -/
import Derived.Test.YtnldohjhjoldaaaLaw22
import Derived.Test.YtnldohjhjoldaaaDiskO
namespace Go.Proofs.Ytnldohjhjoldaaa.Law22
open Go Go.RowKit Go.Proofs.Ytnldohjhjoldaaa.KW Go.Proofs.Ytnldohjhjoldaaa.Words Go.Proofs.Ytnldohjhjoldaaa.Disk
set_option linter.unusedVariables false
set_option linter.unusedSimpArgs false
set_option maxRecDepth 100000
/-- Three disks that lie apart, and apart from Z. -/
def Tri (w0 : World) (Z : Nat → Prop) (w : World) (g6 g7 g8 : Nat) (r6 r7 r8 : Int) (D6 D7 D8 : Dsk) : Prop :=
  Ext w0 w ∧ (∀ k, k < w0.heap.size → Z k) ∧ (∀ k, Z k → k < w.heap.size) ∧ ∃ F6 F7 F8 : Nat → Prop, Dk w F6 g6 r6 D6 ∧ Dk w F7 g7 r7 D7 ∧ Dk w F8 g8 r8 D8 ∧
    (∀ k, F6 k → ¬ Z k) ∧ (∀ k, F7 k → ¬ Z k) ∧ (∀ k, F8 k → ¬ Z k) ∧ (∀ k, F6 k → ¬ F7 k) ∧ (∀ k, F6 k → ¬ F8 k) ∧ (∀ k, F7 k → ¬ F8 k)
section
variable {w0 w w' : World} {Z : Nat → Prop} {g6 g7 g8 : Nat} {r6 r7 r8 : Int} {D6 D7 D8 : Dsk}
theorem Tri.ext (h : Tri w0 Z w g6 g7 g8 r6 r7 r8 D6 D7 D8) (x : Ext w w') : Tri w0 Z w' g6 g7 g8 r6 r7 r8 D6 D7 D8 := by
  obtain ⟨hX, h1, h2, F6, F7, F8, h6, h7, h8, hr⟩ := h
  exact ⟨hX.ext x, h1, fun k hk => Nat.lt_of_lt_of_le (h2 k hk) x.size, F6, F7, F8, h6.ext x, h7.ext x, h8.ext x, hr⟩
theorem Tri.chg {S : Nat → Prop} (h : Tri w0 Z w g6 g7 g8 r6 r7 r8 D6 D7 D8) (x : Chg S w w') (hS : ∀ k, S k → Z k) (hn : ∀ k, S k → ¬ k < w0.heap.size) : Tri w0 Z w' g6 g7 g8 r6 r7 r8 D6 D7 D8 := by
  obtain ⟨hX, h1, h2, F6, F7, F8, h6, h7, h8, a, b, c, hr⟩ := h
  exact ⟨hX.news x (fun k hk => Or.inr (Nat.not_lt.1 (hn k hk))), h1, fun k hk => Nat.lt_of_lt_of_le (h2 k hk) x.size, F6, F7, F8, h6.chg x (fun k f s => a k f (hS k s)), h7.chg x (fun k f s => b k f (hS k s)), h8.chg x (fun k f s => c k f (hS k s)), a, b, c, hr⟩
theorem Tri.more {Z' : Nat → Prop} (h : Tri w0 Z w g6 g7 g8 r6 r7 r8 D6 D7 D8) (x : Ext w w') (hz : ∀ k, Z k → Z' k) (hn : ∀ k, Z' k → Z k ∨ w.heap.size ≤ k) (hl : ∀ k, Z' k → k < w'.heap.size) : Tri w0 Z' w' g6 g7 g8 r6 r7 r8 D6 D7 D8 := by
  obtain ⟨hX, h1, h2, F6, F7, F8, h6, h7, h8, a, b, c, hr⟩ := h
  refine ⟨hX.ext x, fun k hk => hz k (h1 k hk), hl, F6, F7, F8, h6.ext x, h7.ext x, h8.ext x, ?_, ?_, ?_, hr⟩
  · intro k f z; rcases hn k z with z | z
    · exact a k f z
    · have := h6.lt k f; omega
  · intro k f z; rcases hn k z with z | z
    · exact b k f z
    · have := h7.lt k f; omega
  · intro k f z; rcases hn k z with z | z
    · exact c k f z
    · have := h8.lt k f; omega
theorem Tri.less {Z' : Nat → Prop} (h : Tri w0 Z w g6 g7 g8 r6 r7 r8 D6 D7 D8) (hz : ∀ k, Z' k → Z k) (h0 : ∀ k, k < w0.heap.size → Z' k) : Tri w0 Z' w g6 g7 g8 r6 r7 r8 D6 D7 D8 := by
  obtain ⟨hX, h1, h2, F6, F7, F8, h6, h7, h8, a, b, c, hr⟩ := h
  exact ⟨hX, h0, fun k hk => h2 k (hz k hk), F6, F7, F8, h6, h7, h8, fun k f z => a k f (hz k z), fun k f z => b k f (hz k z), fun k f z => c k f (hz k z), hr⟩
/-- A call on one of the three: told with its blocks, which lie not in Z. -/
theorem Tri.at6 (h : Tri w0 Z w g6 g7 g8 r6 r7 r8 D6 D7 D8) : ∃ F : Nat → Prop, Dk w F g6 r6 D6 ∧ (∀ k, F k → ¬ Z k) ∧ ∀ {w'} {E : Dsk}, Dk w' (Grown F w w') g6 r6 E → Chg F w w' → Tri w0 Z w' g6 g7 g8 r6 r7 r8 E D7 D8 := by
  obtain ⟨hX, h1, h2, F6, F7, F8, h6, h7, h8, a, b, c, d, e, f⟩ := h
  refine ⟨F6, h6, a, fun hD hc => ⟨hX.news hc (fun k hk => Or.inr (Nat.not_lt.1 fun q => a k hk (h1 k q))), h1, fun k hk => Nat.lt_of_lt_of_le (h2 k hk) hc.size, _, F7, F8, hD, h7.chg hc (fun k p q => d k q p), h8.chg hc (fun k p q => e k q p), ?_, b, c, ?_, ?_, f⟩⟩
  · rintro k (p | p) z
    · exact a k p z
    · have := h2 k z; omega
  · rintro k (p | p) z
    · exact d k p z
    · have := h7.lt k z; omega
  · rintro k (p | p) z
    · exact e k p z
    · have := h8.lt k z; omega
theorem Tri.at7 (h : Tri w0 Z w g6 g7 g8 r6 r7 r8 D6 D7 D8) : ∃ F : Nat → Prop, Dk w F g7 r7 D7 ∧ (∀ k, F k → ¬ Z k) ∧ ∀ {w'} {E : Dsk}, Dk w' (Grown F w w') g7 r7 E → Chg F w w' → Tri w0 Z w' g6 g7 g8 r6 r7 r8 D6 E D8 := by
  obtain ⟨hX, h1, h2, F6, F7, F8, h6, h7, h8, a, b, c, d, e, f⟩ := h
  refine ⟨F7, h7, b, fun hD hc => ⟨hX.news hc (fun k hk => Or.inr (Nat.not_lt.1 fun q => b k hk (h1 k q))), h1, fun k hk => Nat.lt_of_lt_of_le (h2 k hk) hc.size, F6, _, F8, h6.chg hc (fun k p q => d k p q), hD, h8.chg hc (fun k p q => f k q p), a, ?_, c, ?_, e, ?_⟩⟩
  · rintro k (p | p) z
    · exact b k p z
    · have := h2 k z; omega
  · rintro k z (p | p)
    · exact d k z p
    · have := h6.lt k z; omega
  · rintro k (p | p) z
    · exact f k p z
    · have := h8.lt k z; omega
theorem Tri.at8 (h : Tri w0 Z w g6 g7 g8 r6 r7 r8 D6 D7 D8) : ∃ F : Nat → Prop, Dk w F g8 r8 D8 ∧ (∀ k, F k → ¬ Z k) ∧ ∀ {w'} {E : Dsk}, Dk w' (Grown F w w') g8 r8 E → Chg F w w' → Tri w0 Z w' g6 g7 g8 r6 r7 r8 D6 D7 E := by
  obtain ⟨hX, h1, h2, F6, F7, F8, h6, h7, h8, a, b, c, d, e, f⟩ := h
  refine ⟨F8, h8, c, fun hD hc => ⟨hX.news hc (fun k hk => Or.inr (Nat.not_lt.1 fun q => c k hk (h1 k q))), h1, fun k hk => Nat.lt_of_lt_of_le (h2 k hk) hc.size, F6, F7, _, h6.chg hc (fun k p q => e k p q), h7.chg hc (fun k p q => f k p q), hD, a, b, ?_, d, ?_, ?_⟩⟩
  · rintro k (p | p) z
    · exact c k p z
    · have := h2 k z; omega
  · rintro k z (p | p)
    · exact e k z p
    · have := h6.lt k z; omega
  · rintro k z (p | p)
    · exact f k z p
    · have := h7.lt k z; omega
theorem dk_grown {F : Nat → Prop} {g : Nat} {r : Int} {D : Dsk} (h : Dk w' F g r D) (hl : ∀ k, F k → k < w.heap.size) (hs : w.heap.size ≤ w'.heap.size) : Dk w' (Grown F w w') g r D := h.grow (fun k p => Or.inl p) (Grown.lt hl hs)
theorem own_at {base e n c : Nat} {a : Option Addr} {cs : List Value} {sz : Nat} (h : w.ownsRow base e sz (.slice a n c) n cs) (hn : 0 < n) : ∃ g, a = some ⟨g, 0, none⟩ := by
  rcases h.2 with ⟨h0, h1⟩ | ⟨g, cap, cur, hv, _⟩
  · omega
  · injection hv with h1; exact ⟨g, h1⟩
theorem own_sl {base e n c : Nat} {a : Option Addr} {cs : List Value} {sz : Nat} (h : w.ownsRow base e sz (.slice a n c) n cs) : Sl w a n c sz cs := by
  obtain ⟨a', c', q, hs, _⟩ := ownsRow_form h
  injection q with e1 _ e3
  subst e1; subst e3
  exact hs
theorem xor_byte (a m : UInt8) : xorM 256 a.toNat m.toNat = (a ^^^ m).toNat := by
  rw [UInt8.toNat_xor, xorM]
  exact Nat.mod_eq_of_lt (Nat.xor_lt_two_pow (n := 8) (UInt8.toNat_lt a) (UInt8.toNat_lt m))
theorem app_len (D : Dsk) (b : List UInt8) : (appD D b).bs.length ≤ D.bs.length + b.length := by
  unfold appD; split
  · exact Nat.le_add_right _ _
  · rw [List.length_append]; exact Nat.le_refl _
theorem cut_len (D : Dsk) (n : Int) : (cutD D n).bs.length ≤ D.bs.length := by
  unfold cutD; simp only; split
  · exact Nat.le_refl _
  · rw [List.length_take]; exact Nat.min_le_right _ _
theorem crash_len (D : Dsk) (n : Int) : (crashD D n).bs.length ≤ D.bs.length := by
  show (D.bs.take _).length ≤ _
  rw [List.length_take]; exact Nat.min_le_right _ _
end
theorem EAct : Elem Try.prog 40 4 64 (.agg #[.int .i64 0, .int .i64 0, .slice none 0 0, .slice none 0 0]) := Elem.of (by kernel_rfl) rfl rfl
theorem Sl.back {w w1 : World} {ao : Option Addr} {n c sz : Nat} {cs : List Value} (h : Sl w1 ao n c sz cs) (x : Ext w w1) (hb : ∀ ad, ao = some ad → cs ≠ [] → ad.block < w.heap.size) : Sl w ao n c sz cs := by
  refine ⟨h.le, h.len, h.nil, fun ad e j u hu => ?_⟩
  have h1 := hb ad e (by rintro rfl; simp at hu)
  exact (World.cell?_of_block (by rw [add_block]; exact (x.block ad.block h1 (fun c => c)).symm)).trans (h.at_ ad e j u hu)
theorem DiskPlays_walk (room : Int) (ao : Option Addr) (c : Nat) (xs : List ActD) (w : World) (hr : -9223372036854775808 ≤ room ∧ room ≤ 9223372036854775807) (hE : Els (fun _ => False) w 4 RAct ao c xs) (hl : xs.length ≤ 9223372036854775807) :
    Ct Try.prog 5 #[.int .i64 room, .slice ao xs.length c] w (LawOk w) := by
  refine Ct.enter [(0, .int .i64 room), (1, .slice ao xs.length c)] Try.func5 rfl rfl rfl rfl ?_
  obtain ⟨Z0, hZ0⟩ : ∃ Z : Nat → Prop, Z = fun k => k < w.heap.size := ⟨_, rfl⟩
  have hz0 : ∀ k, k < w.heap.size → Z0 k := fun k h => by rw [hZ0]; exact h
  have hz1 : ∀ k, Z0 k → k < w.heap.size := fun k h => by rw [hZ0] at h; exact h
  refine C.seq ?_
  refine C.region ?_
  refine W.assign rfl rfl ?_
  refine W.nil ?_
  refine At.thenCode ?_
  refine C.seq ?_
  refine C.region ?_
  refine W.call Try.call11 rfl (alive_ok _) rfl ?_
  rintro v15 w15 ⟨rfl, hX15⟩
  refine W.assign rfl rfl ?_
  refine W.nil ?_
  refine At.thenCode ?_
  refine C.seq ?_
  refine C.seq ?_
  refine C.region ?_
  refine W.move rfl rfl ?_
  first | refine W.notD rfl rfl ?_ | refine W.notB rfl rfl ?_
  refine W.move rfl rfl ?_
  refine W.wants rfl rfl rfl rfl ?_
  refine W.move rfl rfl ?_
  refine W.wants rfl rfl rfl rfl ?_
  refine W.lenS rfl Try.underlying36 rfl ?_
  refine W.wants rfl rfl rfl rfl ?_
  refine W.gtrI rfl rfl rfl ?_
  refine W.pickF rfl rfl rfl ?_
  refine W.nil ?_
  refine At.thenCode ?_
  first | refine C.condD rfl (fun c22 => ?_) (fun c22 => ?_) | refine C.cond rfl (fun c22 => ?_) (fun c22 => ?_)
  · refine C.seq ?_
    refine C.region ?_
    refine W.move rfl rfl ?_
    refine W.assign rfl rfl ?_
    refine W.nil ?_
    refine At.thenCode ?_
    refine C.ret ?_
    refine At.thenRet ?_
    refine At.ret1 Try.results5 rfl ?_
    first
    | exact ⟨rfl, Ext.below hX15⟩
    | exact ⟨rfl, Ext.below hX11w⟩
    | exact ⟨rfl, Ext.below hT1.1⟩
  · refine C.skip ?_
    refine At.thenCode ?_
    refine C.seq ?_
    refine C.region ?_
    refine W.move rfl rfl ?_
    refine W.call Try.call12 rfl (Disk.New_ok room _ hr) rfl ?_
    rintro v25 w25 ⟨g6, rfl, hD25, hX25⟩
    refine W.assign rfl rfl ?_
    refine W.nil ?_
    refine At.thenCode ?_
    refine C.seq ?_
    refine C.region ?_
    refine W.call Try.call12 rfl (Disk.New_ok 9 _ (by decide)) rfl ?_
    rintro v26 w26 ⟨g7, rfl, hD26, hX26⟩
    refine W.assign rfl rfl ?_
    refine W.nil ?_
    refine At.thenCode ?_
    refine C.seq ?_
    refine C.region ?_
    refine W.move rfl rfl ?_
    refine W.call Try.call19 rfl (Disk.RNew_ok room _ hr) rfl ?_
    rintro v28 w28 ⟨g8, rfl, hD28, hX28⟩
    have hT28 : Tri w Z0 w28 g6 g7 g8 (max 0 room) (max 0 9) room ⟨room.toNat, [], 0, []⟩ ⟨(9 : Int).toNat, [], 0, []⟩ ⟨room.toNat, [], 0, []⟩ := by
      have s1 := hX15.size
      have s2 := hX25.size
      have s3 := hX26.size
      have s4 := hX28.size
      refine ⟨((hX15.ext hX25).ext hX26).ext hX28, hz0, fun k hk => by have := hz1 k hk; omega, _, _, _, (hD25.ext hX26).ext hX28, hD26.ext hX28, hD28, ?_, ?_, ?_, ?_, ?_, ?_⟩
      · rintro k (p | p) z
        · exact p
        · have := hz1 k z; omega
      · rintro k (p | p) z
        · exact p
        · have := hz1 k z; omega
      · rintro k (p | p) z
        · exact p
        · have := hz1 k z; omega
      · rintro k (p | p) (q | q)
        · exact p
        · exact p
        · exact q
        · omega
      · rintro k (p | p) (q | q)
        · exact p
        · exact p
        · exact q
        · omega
      · rintro k (p | p) (q | q)
        · exact p
        · exact p
        · exact q
        · omega
    refine W.assign rfl rfl ?_
    refine W.nil ?_
    refine At.thenCode ?_
    refine C.seq ?_
    refine C.seq ?_
    refine C.region ?_
    refine W.assign rfl rfl ?_
    refine W.nil ?_
    refine At.thenCode ?_
    refine C.block ?_
    refine C.loop (X := Nat × Dsk × Dsk) (fun x_ => [(1, .slice ao xs.length c), (6, .pointer (some ⟨g6, 0, none⟩)), (7, .pointer (some ⟨g7, 0, none⟩)), (8, .pointer (some ⟨g8, 0, none⟩)), (9, .int .i64 (x_.1 : Int))]) (fun x_ w1 => x_.1 ≤ xs.length ∧ x_.2.1.bs.length ≤ 200 * x_.1 ∧ Tri w Z0 w1 g6 g7 g8 (max 0 room) (max 0 9) room x_.2.1 x_.2.2 x_.2.1) (fun x_ => xs.length - x_.1) (0, (⟨room.toNat, [], 0, []⟩ : Dsk), (⟨(9 : Int).toNat, [], 0, []⟩ : Dsk)) (Sub.cons (rfl) (Sub.cons (rfl) (Sub.cons (rfl) (Sub.cons (rfl) (Sub.cons (rfl) (Sub.nil)))))) ?start1 ?_
    case start1 =>
      show (0) ≤ xs.length ∧ ((⟨room.toNat, [], 0, []⟩ : Dsk)).bs.length ≤ 200 * (0) ∧ Tri w Z0 _ g6 g7 g8 (max 0 room) (max 0 9) room ((⟨room.toNat, [], 0, []⟩ : Dsk)) ((⟨(9 : Int).toNat, [], 0, []⟩ : Dsk)) ((⟨room.toNat, [], 0, []⟩ : Dsk))
      exact ⟨by omega, by simp, hT28⟩
    rintro ⟨i, D, D7⟩ w1 hI_
    replace hI_ : i ≤ xs.length ∧ D.bs.length ≤ 200 * i ∧ Tri w Z0 w1 g6 g7 g8 (max 0 room) (max 0 9) room D D7 D := hI_
    obtain ⟨hi, hDl, hT1⟩ := hI_
    refine C.weaken (l' := [(1, .slice ao xs.length c), (6, .pointer (some ⟨g6, 0, none⟩)), (7, .pointer (some ⟨g7, 0, none⟩)), (8, .pointer (some ⟨g8, 0, none⟩)), (9, .int .i64 (i : Int))]) (Sub.cons (rfl) (Sub.cons (rfl) (Sub.cons (rfl) (Sub.cons (rfl) (Sub.cons (rfl) (Sub.nil)))))) ?_
    refine C.seq ?_
    refine C.seq ?_
    refine C.region ?_
    refine W.move rfl rfl ?_
    refine W.move rfl rfl ?_
    refine W.lenS rfl Try.underlying36 rfl ?_
    refine W.lssI rfl rfl rfl ?_
    refine W.nil ?_
    refine At.thenCode ?_
    first | refine C.condD rfl (fun c32 => ?_) (fun c32 => ?_) | refine C.cond rfl (fun c32 => ?_) (fun c32 => ?_)
    · have hlt : i < xs.length := by omega
      have hX1 : Ext w w1 := hT1.1
      refine C.skip ?_
      refine At.thenCode ?_
      refine C.seq ?_
      refine C.block ?_
      refine C.seq ?_
      refine C.region ?_
      refine W.move rfl rfl ?_
      refine W.move rfl rfl ?_
      refine W.indexE EAct Try.underlying36 rfl ((hE.new rAct (B := fun k => w.heap.size ≤ k) fun k h1 h2 => absurd h2 (Nat.not_lt.2 h1)).ext rAct hX1) rfl hlt rfl ?_
      rintro ad37 cs37 hc37 ⟨ab, cb, al, cl, rfl, ⟨hB, hBn⟩, ⟨hZ, hZn⟩⟩ _
      obtain ⟨p, hp⟩ : ∃ p, p = xs[i] := ⟨_, rfl⟩
      rw [← hp] at hB hZ hBn hZn hc37
      try rw [← hp]
      have hBw : Bs w ab cb p.b := Sl.back hB hX1 fun ad e hne => Nat.not_le.1 (hBn ad e (fun q => hne (by rw [q]; rfl)))
      have hZw : Zs w al cl p.l := Sl.back hZ hX1 fun ad e hne => Nat.not_le.1 (hZn ad e (fun q => hne (by rw [q]; rfl)))
      have hBlt : ∀ ad, ab = some ad → p.b ≠ [] → ad.block < w.heap.size := fun ad e hne => Nat.not_le.1 (hBn ad e hne)
      refine W.loadA rfl hc37 Try.underlying40 rfl (by kernel_rfl) rfl ?_
      refine W.alloc (z := .agg #[.int .i64 0, .int .i64 0, .slice none 0 0, .slice none 0 0]) [.int .i64 0, .int .i64 0, .slice none 0 0, .slice none 0 0] (by kernel_rfl) rfl rfl ?_
      intro g10 w10 hg10 hX10 hB10
      refine W.storeA [.int .i64 p.way, .int .i64 p.n, .slice ab p.b.length cb, .slice al p.l.length cl] rfl rfl hB10 rfl (by kernel_rfl) (by intro u hu; simp at hu; rcases hu with rfl | rfl | rfl | rfl <;> rfl) ?_
      intro w11 hc11 hB11
      have hX11 : Ext w1 w11 := hX10.news hc11 fun k hk => Or.inr (by omega)
      have hl11 := hB11.lt
      have hX11w := hX1.ext hX11
      refine W.nil ?_
      refine At.thenCode ?_
      refine C.seq ?_
      refine C.seq ?_
      refine C.region ?_
      refine W.fieldB (off := 2) (size := 1) (t := 23) (Fld.of (by kernel_rfl)) rfl rfl rfl ?_
      refine W.loadB rfl Try.underlying23 rfl (by assumption) rfl rfl ?_
      refine W.lenS rfl Try.underlying23 rfl ?_
      refine W.gtrI rfl rfl rfl ?_
      refine W.move rfl rfl ?_
      first | refine W.splitD (fun g43 => ?_) (fun g43 => ?_) | refine W.splitB (fun g43 => ?_) (fun g43 => ?_)
      · refine W.skips rfl rfl rfl rfl rfl rfl ?_
        refine W.skips rfl rfl rfl rfl rfl rfl ?_
        refine W.skips rfl rfl rfl rfl rfl rfl ?_
        refine W.skips rfl rfl rfl rfl rfl rfl ?_
        refine W.pickT rfl rfl rfl ?_
        refine W.nil ?_
        refine At.thenCode ?_
        refine C.condT rfl ?_
        refine C.seq ?_
        refine C.region ?_
        refine W.assign rfl rfl ?_
        refine W.nil ?_
        refine At.thenCode ?_
        refine C.ret ?_
        refine At.thenRet ?_
        refine At.blockRet ?_
        refine At.thenRet ?_
        refine At.thenRet ?_
        refine At.blockRet ?_
        refine At.thenRet ?_
        refine At.ret1 Try.results5 rfl ?_
        first
        | exact ⟨rfl, Ext.below hX15⟩
        | exact ⟨rfl, Ext.below hX11w⟩
        | exact ⟨rfl, Ext.below hT1.1⟩
      · refine W.wants rfl rfl rfl rfl ?_
        refine W.fieldB (off := 3) (size := 1) (t := 22) (Fld.of (by kernel_rfl)) rfl rfl rfl ?_
        refine W.wants rfl rfl rfl rfl ?_
        refine W.loadB rfl Try.underlying22 rfl (by assumption) rfl rfl ?_
        refine W.wants rfl rfl rfl rfl ?_
        refine W.lenS rfl Try.underlying22 rfl ?_
        refine W.wants rfl rfl rfl rfl ?_
        refine W.gtrI rfl rfl rfl ?_
        refine W.pickF rfl rfl rfl ?_
        refine W.nil ?_
        refine At.thenCode ?_
        first | refine C.condD rfl (fun c48 => ?_) (fun c48 => ?_) | refine C.cond rfl (fun c48 => ?_) (fun c48 => ?_)
        · refine C.seq ?_
          refine C.region ?_
          refine W.assign rfl rfl ?_
          refine W.nil ?_
          refine At.thenCode ?_
          refine C.ret ?_
          refine At.thenRet ?_
          refine At.blockRet ?_
          refine At.thenRet ?_
          refine At.thenRet ?_
          refine At.blockRet ?_
          refine At.thenRet ?_
          refine At.ret1 Try.results5 rfl ?_
          first
          | exact ⟨rfl, Ext.below hX15⟩
          | exact ⟨rfl, Ext.below hX11w⟩
          | exact ⟨rfl, Ext.below hT1.1⟩
        · have hbl : p.b.length ≤ 200 := by omega
          have hll : p.l.length ≤ 30 := by omega
          refine C.skip ?_
          refine At.thenCode ?_
          refine C.seq ?_
          refine C.region ?_
          refine W.move rfl rfl ?_
          refine W.litB [1] E8 Try.underlying23 rfl rfl rfl rfl rfl ?_
          intro g50 w50 hg50 hX50 ho50 hb50
          have hl50 := (World.ownsRow.lt ho50 g50 rfl).2
          have hs11 := hX11.size
          have hs50 := hX50.size
          obtain ⟨Z, hZd⟩ : ∃ Z : Nat → Prop, Z = fun k => Z0 k ∨ k = g10 ∨ k = g50 := ⟨_, rfl⟩
          have hZg : Z g10 := by rw [hZd]; exact Or.inr (Or.inl rfl)
          have hZh : Z g50 := by rw [hZd]; exact Or.inr (Or.inr rfl)
          have hZ0 : ∀ k, Z0 k → Z k := fun k h => by rw [hZd]; exact Or.inl h
          have hT50 : Tri w Z w50 g6 g7 g8 (max 0 room) (max 0 9) room D D7 D := hT1.more (hX11.ext hX50) hZ0 (fun k h => by
            rw [hZd] at h
            rcases h with h | h | h
            · exact Or.inl h
            · exact Or.inr (by omega)
            · exact Or.inr (by omega)) (fun k h => by
            rw [hZd] at h
            rcases h with h | rfl | rfl
            · have := hz1 k h; have := hX1.size; omega
            · omega
            · exact hl50)
          obtain ⟨F, hD, hn, hput⟩ := hT50.at7
          have hfit := hD.ok.fits
          have hrm := hD.room
          refine W.call Try.call14 rfl (Disk.Append_ok F g7 _ D7 _ _ [1] _ hD (by omega) hb50 (fun ad e _ hk => by obtain rfl := Option.some.inj e; exact hn _ hk hZh) (by simp; omega)) rfl ?_
          rintro v51 w51 ⟨rfl, hD51, hc51⟩
          have hT51 := hput hD51 hc51
          have hB51 := (hB11.ext hX50).chg hc51 (fun h => hn _ h hZg)
          have hbs51 := hBw.ext hT51.1
          refine W.nil ?_
          refine At.thenCode ?_
          refine C.seq ?_
          refine C.region ?_
          refine W.assign rfl rfl ?_
          refine W.nil ?_
          refine At.thenCode ?_
          refine C.seq ?_
          refine C.region ?_
          refine W.assign rfl rfl ?_
          refine W.nil ?_
          refine At.thenCode ?_
          refine C.seq ?_
          refine C.seq ?_
          refine C.region ?_
          refine W.fieldB (off := 0) (size := 1) (t := 3) (Fld.of (by kernel_rfl)) rfl rfl rfl ?_
          refine W.loadB rfl Try.underlying3 rfl (by assumption) rfl rfl ?_
          refine W.nil ?_
          refine At.thenCode ?_
          refine C.mid (X := Nat × Dsk) (fun x_ => [(1, .slice ao xs.length c), (6, .pointer (some ⟨g6, 0, none⟩)), (7, .pointer (some ⟨g7, 0, none⟩)), (8, .pointer (some ⟨g8, 0, none⟩)), (9, .int .i64 (i : Int)), (11, .int .i64 (x_.1 : Int)), (12, .int .i64 (x_.1 : Int))]) (fun x_ wm2 => x_.2.bs.length ≤ 200 * (i + 1) ∧ Tri w Z wm2 g6 g7 g8 (max 0 room) (max 0 9) room x_.2 (appD D7 [1]) x_.2) ?_ ?_
          · refine C.block ?_
            refine C.seq ?_
            refine C.region ?_
            refine W.eqlI rfl rfl rfl ?_
            refine W.assign rfl rfl ?_
            refine W.nil ?_
            refine At.thenCode ?_
            first | refine C.condD rfl (fun c54 => ?_) (fun c54 => ?_) | refine C.cond rfl (fun c54 => ?_) (fun c54 => ?_)
            · refine C.seq ?_
              refine C.region ?_
              refine W.fieldB (off := 2) (size := 1) (t := 23) (Fld.of (by kernel_rfl)) rfl rfl rfl ?_
              refine W.loadB rfl Try.underlying23 rfl (by assumption) rfl rfl ?_
              refine W.appendB (ys := p.b) E8 Try.underlying23 rfl rfl (Ow.nil _ w51.heap.size 5) hbs51 (by simp; omega) (Nat.le_refl _) rfl ?_
              intro v58 w58 hO58 hg58 _
              have hX58 : Ext w51 w58 := (Chg.of_grown hg58).mono fun k hk => by cases hk
              rw [List.nil_append] at hO58
              obtain ⟨a13, c13, rfl, hS13, hb13⟩ := ownsRow_form hO58
              obtain ⟨Z2, hZd2⟩ : ∃ Z2 : Nat → Prop, Z2 = fun k => Z k ∨ ∃ ad, a13 = some ad ∧ ad.block = k := ⟨_, rfl⟩
              have hZ2 : ∀ k, Z k → Z2 k := fun k h => by rw [hZd2]; exact Or.inl h
              have hZa : ∀ ad, a13 = some ad → Z2 ad.block := fun ad h => by rw [hZd2]; exact Or.inr ⟨ad, h, rfl⟩
              have hT58 : Tri w Z2 w58 g6 g7 g8 (max 0 room) (max 0 9) room D (appD D7 [1]) D := hT51.more hX58 hZ2 (fun k h => by
                rw [hZd2] at h
                rcases h with h | ⟨ad, h, rfl⟩
                · exact Or.inl h
                · exact Or.inr (hb13 ad h)) (fun k h => by
                rw [hZd2] at h
                rcases h with h | ⟨ad, rfl, rfl⟩
                · exact Nat.lt_of_lt_of_le (hT51.2.2.1 k h) hX58.size
                · exact (World.ownsRow.lt hO58 _ rfl).2)
              refine W.assign rfl rfl ?_
              refine W.nil ?_
              refine At.thenCode ?_
              refine C.seq ?_
              refine C.region ?_
              refine W.move rfl rfl ?_
              refine W.move rfl rfl ?_
              obtain ⟨F, hD, hn, hput⟩ := hT58.at6
              refine W.call Try.call14 rfl (Disk.Append_ok F g6 _ D a13 c13 p.b _ hD (by omega) hS13 (fun ad e _ hk => hn _ hk (hZa ad e)) (by omega)) rfl ?_
              rintro v61 w61 ⟨rfl, hD61, hc61⟩
              have hT61 := hput hD61 hc61
              have hO61 := ownsRow_chg hO58 hc61 (fun k hk hF => by obtain ⟨ad, e, rfl⟩ := slice_own hk; exact hn _ hF (hZa ad e))
              have hB61 := (hB51.ext hX58).chg hc61 (fun h => hn _ h (hZ2 _ hZg))
              refine W.assign rfl rfl ?_
              refine W.nil ?_
              refine At.thenCode ?_
              refine C.seq ?_
              refine C.region ?_
              refine W.move rfl rfl ?_
              refine W.fieldB (off := 2) (size := 1) (t := 23) (Fld.of (by kernel_rfl)) rfl rfl rfl ?_
              refine W.loadB rfl Try.underlying23 rfl (by assumption) rfl rfl ?_
              obtain ⟨F, hD, hn, hput⟩ := hT61.at8
              refine W.call Try.call20 rfl (Disk.RAppend_ok F g8 _ D ab cb p.b _ hD (hBw.ext hT61.1) (fun ad e hne hk => hn _ hk (hZ2 _ (hZ0 _ (hz0 _ (hBlt ad e hne))))) (by omega)) rfl ?_
              rintro v65 w65 ⟨rfl, hD65, hc65⟩
              have hT65 := hput hD65 hc65
              have hO65 := ownsRow_chg hO61 hc65 (fun k hk hF => by obtain ⟨ad, e, rfl⟩ := slice_own hk; exact hn _ hF (hZa ad e))
              refine W.assign rfl rfl ?_
              refine W.nil ?_
              refine At.thenCode ?_
              refine C.seq ?_
              refine C.region ?_
              refine W.assign rfl rfl ?_
              refine W.nil ?_
              refine At.thenCode ?_
              refine C.block ?_
              refine C.loop (X := Nat × (List UInt8)) (fun x_ => [(1, .slice ao xs.length c), (6, .pointer (some ⟨g6, 0, none⟩)), (7, .pointer (some ⟨g7, 0, none⟩)), (8, .pointer (some ⟨g8, 0, none⟩)), (9, .int .i64 (i : Int)), (11, .int .i64 (appE D p.b : Int)), (12, .int .i64 (appE D p.b : Int)), (13, .slice a13 p.b.length c13), (14, .int .i64 (x_.1 : Int))]) (fun x_ w2 => x_.1 ≤ p.b.length ∧ x_.2.length = p.b.length ∧ World.ownsRow w2 w51.heap.size 5 1 (.slice a13 p.b.length c13) p.b.length (x_.2.map byteV) ∧ Tri w Z2 w2 g6 g7 g8 (max 0 room) (max 0 9) room (appD D p.b) (appD D7 [1]) (appD D p.b)) (fun x_ => p.b.length - x_.1) (0, p.b) (Sub.cons (rfl) (Sub.cons (rfl) (Sub.cons (rfl) (Sub.cons (rfl) (Sub.cons (rfl) (Sub.cons (rfl) (Sub.cons (rfl) (Sub.cons (rfl) (Sub.cons (rfl) (Sub.nil)))))))))) ?start2 ?_
              case start2 =>
                show (0) ≤ p.b.length ∧ (p.b).length = p.b.length ∧ World.ownsRow _ w51.heap.size 5 1 (.slice a13 p.b.length c13) p.b.length ((p.b).map byteV) ∧ Tri w Z2 _ g6 g7 g8 (max 0 room) (max 0 9) room (appD D p.b) (appD D7 [1]) (appD D p.b)
                exact ⟨by omega, rfl, hO65, hT65⟩
              rintro ⟨j, ys⟩ w2 hI_
              replace hI_ : j ≤ p.b.length ∧ ys.length = p.b.length ∧ World.ownsRow w2 w51.heap.size 5 1 (.slice a13 p.b.length c13) p.b.length (ys.map byteV) ∧ Tri w Z2 w2 g6 g7 g8 (max 0 room) (max 0 9) room (appD D p.b) (appD D7 [1]) (appD D p.b) := hI_
              obtain ⟨hj, hyl, hO2, hT2⟩ := hI_
              refine C.weaken (l' := [(1, .slice ao xs.length c), (6, .pointer (some ⟨g6, 0, none⟩)), (7, .pointer (some ⟨g7, 0, none⟩)), (8, .pointer (some ⟨g8, 0, none⟩)), (9, .int .i64 (i : Int)), (11, .int .i64 (appE D p.b : Int)), (12, .int .i64 (appE D p.b : Int)), (13, .slice a13 p.b.length c13), (14, .int .i64 (j : Int))]) (Sub.cons (rfl) (Sub.cons (rfl) (Sub.cons (rfl) (Sub.cons (rfl) (Sub.cons (rfl) (Sub.cons (rfl) (Sub.cons (rfl) (Sub.cons (rfl) (Sub.cons (rfl) (Sub.nil)))))))))) ?_
              refine C.seq ?_
              refine C.seq ?_
              refine C.region ?_
              refine W.move rfl rfl ?_
              refine W.move rfl rfl ?_
              refine W.lenS rfl Try.underlying23 rfl ?_
              refine W.lssI rfl rfl rfl ?_
              refine W.nil ?_
              refine At.thenCode ?_
              first | refine C.condD rfl (fun c69 => ?_) (fun c69 => ?_) | refine C.cond rfl (fun c69 => ?_) (fun c69 => ?_)
              · have hjl : j < p.b.length := by omega
                have hjy : j < ys.length := by omega
                obtain ⟨gC, hgC⟩ := own_at hO2 (by omega)
                have hO2' := hO2
                rw [hgC] at hO2'
                refine C.skip ?_
                refine At.thenCode ?_
                refine C.seq ?_
                refine C.block ?_
                refine C.region ?_
                refine W.move rfl rfl ?_
                refine W.move rfl rfl ?_
                refine W.move rfl rfl ?_
                refine W.move rfl rfl ?_
                refine W.indexS (i := (j : Int)) E8 Try.underlying23 rfl (own_sl hO2) rfl ⟨by omega, by omega⟩ rfl ?_
                intro ad76 _ _ hq76
                refine W.load (v := byteV ys[j]) rfl Try.underlying5 rfl (by have h := hq76 0 (byteV ys[j]) (by rw [List.getElem?_drop, Int.toNat_natCast, Nat.mul_one, Nat.add_zero]; exact get_byte hjy); rwa [add_zero'] at h) rfl ?_
                refine W.xorU (M := 256) (n := 255) rfl rfl rfl rfl rfl ?_
                refine W.eqv (v' := byteV (ys[j] ^^^ 255)) (by rw [show (255 : Nat) = (255 : UInt8).toNat from rfl, xor_byte]; rfl) ?_
                refine W.indexS (i := (j : Int)) E8 Try.underlying23 rfl (own_sl hO2) rfl ⟨by omega, by omega⟩ rfl ?_
                intro ad79 _ had79 _
                obtain rfl : ad79 = ⟨gC, j, none⟩ := by rw [had79 _ hgC, add_mk, Int.toNat_natCast, Nat.zero_add, Nat.mul_one]
                refine W.storeO rfl rfl rfl hO2' (by omega) (by kernel_rfl) ?_
                intro w79 hc79 hO79
                rw [← hgC] at hO79
                refine W.nil ?_
                refine At.blockNormal ?_
                refine At.thenCode ?_
                refine C.region ?_
                refine W.move rfl rfl ?_
                first | refine W.addI rfl rfl (by omega) rfl ?_ | refine W.addW rfl rfl rfl ?_
                refine W.assign rfl rfl ?_
                refine W.nil ?_
                refine At.thenRound (j + 1, ys.set j (ys[j] ^^^ 255)) (Sub.cons (rfl) (Sub.cons (rfl) (Sub.cons (rfl) (Sub.cons (rfl) (Sub.cons (rfl) (Sub.cons (rfl) (Sub.cons (rfl) (Sub.cons (rfl) (Sub.cons (look_eq rfl (iV (by omega))) (Sub.nil)))))))))) (show (j + 1) ≤ p.b.length ∧ (ys.set j (ys[j] ^^^ 255)).length = p.b.length ∧ World.ownsRow _ w51.heap.size 5 1 (.slice a13 p.b.length c13) p.b.length ((ys.set j (ys[j] ^^^ 255)).map byteV) ∧ Tri w Z2 _ g6 g7 g8 (max 0 room) (max 0 9) room (appD D p.b) (appD D7 [1]) (appD D p.b) from ?_) (show p.b.length - (j + 1) < p.b.length - j from ?_)
                · refine ⟨by omega, by rw [List.length_set]; exact hyl, by rw [List.map_set]; exact hO79, hT2.chg hc79 (fun k hk => by subst hk; exact hZa _ hgC) (fun k hk h => by
                    subst hk
                    have h1 := hb13 _ hgC
                    have h2 := hT51.1.size
                    have h3 : w51.heap.size ≤ k := h1
                    omega)⟩
                · omega
              · refine C.exit ?_
                refine At.thenExit ?_
                refine At.thenExit ?_
                refine At.blockSelf ?_
                refine At.blockNormal ?_
                refine At.thenMid (appE D p.b, appD D p.b) (Sub.cons (rfl) (Sub.cons (rfl) (Sub.cons (rfl) (Sub.cons (rfl) (Sub.cons (rfl) (Sub.cons (rfl) (Sub.cons (rfl) (Sub.nil)))))))) (show (appD D p.b).bs.length ≤ 200 * (i + 1) ∧ Tri w Z _ g6 g7 g8 (max 0 room) (max 0 9) room (appD D p.b) (appD D7 [1]) (appD D p.b) from ?_)
                exact ⟨by have := app_len D p.b; omega, hT2.less hZ2 (fun k h => hZ0 _ (hz0 _ h))⟩
            · refine C.seq ?_
              refine C.region ?_
              refine W.eqlI rfl rfl rfl ?_
              refine W.assign rfl rfl ?_
              refine W.nil ?_
              refine At.thenCode ?_
              first | refine C.condD rfl (fun c80 => ?_) (fun c80 => ?_) | refine C.cond rfl (fun c80 => ?_) (fun c80 => ?_)
              · refine C.seq ?_
                refine C.region ?_
                refine W.move rfl rfl ?_
                obtain ⟨F, hD, hn, hput⟩ := hT51.at6
                refine W.call Try.call17 rfl (Disk.Sync_ok F g6 _ D _ hD) rfl ?_
                rintro v83 w83 ⟨rfl, hD83, hc83⟩
                have hT83 := hput (dk_grown hD83 hD.lt hc83.size) hc83
                refine W.assign rfl rfl ?_
                refine W.nil ?_
                refine At.thenCode ?_
                refine C.region ?_
                refine W.move rfl rfl ?_
                obtain ⟨F, hD, hn, hput⟩ := hT83.at8
                refine W.call Try.call21 rfl (Disk.RSync_ok F g8 _ D _ hD) rfl ?_
                rintro v85 w85 ⟨rfl, hD85, hc85⟩
                have hT85 := hput (dk_grown hD85 hD.lt hc85.size) hc85
                refine W.assign rfl rfl ?_
                refine W.nil ?_
                refine At.blockNormal ?_
                refine At.thenMid (synE D, synD D) (Sub.cons (rfl) (Sub.cons (rfl) (Sub.cons (rfl) (Sub.cons (rfl) (Sub.cons (rfl) (Sub.cons (rfl) (Sub.cons (rfl) (Sub.nil)))))))) (show (synD D).bs.length ≤ 200 * (i + 1) ∧ Tri w Z _ g6 g7 g8 (max 0 room) (max 0 9) room (synD D) (appD D7 [1]) (synD D) from ?_)
                exact ⟨by show D.bs.length ≤ _; omega, hT85⟩
              · refine C.seq ?_
                refine C.region ?_
                refine W.eqlI rfl rfl rfl ?_
                refine W.assign rfl rfl ?_
                refine W.nil ?_
                refine At.thenCode ?_
                first | refine C.condD rfl (fun c86 => ?_) (fun c86 => ?_) | refine C.cond rfl (fun c86 => ?_) (fun c86 => ?_)
                · refine C.seq ?_
                  refine C.region ?_
                  refine W.move rfl rfl ?_
                  refine W.fieldB (off := 1) (size := 1) (t := 3) (Fld.of (by kernel_rfl)) rfl rfl rfl ?_
                  refine W.loadB rfl Try.underlying3 rfl (by assumption) rfl rfl ?_
                  obtain ⟨F, hD, hn, hput⟩ := hT51.at6
                  refine W.call Try.call22 rfl (Disk.Cut_ok F g6 _ D p.n _ hD) rfl ?_
                  rintro v91 w91 ⟨rfl, hD91, hc91⟩
                  have hT91 := hput hD91 hc91
                  have hB91 := hB51.chg hc91 (fun h => hn _ h hZg)
                  refine W.assign rfl rfl ?_
                  refine W.nil ?_
                  refine At.thenCode ?_
                  refine C.region ?_
                  refine W.move rfl rfl ?_
                  refine W.fieldB (off := 1) (size := 1) (t := 3) (Fld.of (by kernel_rfl)) rfl rfl rfl ?_
                  refine W.loadB rfl Try.underlying3 rfl (by assumption) rfl rfl ?_
                  obtain ⟨F, hD, hn, hput⟩ := hT91.at8
                  refine W.call Try.call23 rfl (Disk.RCut_ok F g8 _ D p.n _ hD) rfl ?_
                  rintro v95 w95 ⟨rfl, hD95, hc95⟩
                  have hT95 := hput hD95 hc95
                  refine W.assign rfl rfl ?_
                  refine W.nil ?_
                  refine At.blockNormal ?_
                  refine At.thenMid (cutE D p.n, cutD D p.n) (Sub.cons (rfl) (Sub.cons (rfl) (Sub.cons (rfl) (Sub.cons (rfl) (Sub.cons (rfl) (Sub.cons (rfl) (Sub.cons (rfl) (Sub.nil)))))))) (show (cutD D p.n).bs.length ≤ 200 * (i + 1) ∧ Tri w Z _ g6 g7 g8 (max 0 room) (max 0 9) room (cutD D p.n) (appD D7 [1]) (cutD D p.n) from ?_)
                  exact ⟨by have := cut_len D p.n; omega, hT95⟩
                · refine C.seq ?_
                  refine C.region ?_
                  refine W.eqlI rfl rfl rfl ?_
                  refine W.assign rfl rfl ?_
                  refine W.nil ?_
                  refine At.thenCode ?_
                  first | refine C.condD rfl (fun c96 => ?_) (fun c96 => ?_) | refine C.cond rfl (fun c96 => ?_) (fun c96 => ?_)
                  · refine C.seq ?_
                    refine C.region ?_
                    refine W.move rfl rfl ?_
                    refine W.fieldB (off := 1) (size := 1) (t := 3) (Fld.of (by kernel_rfl)) rfl rfl rfl ?_
                    refine W.loadB rfl Try.underlying3 rfl (by assumption) rfl rfl ?_
                    obtain ⟨F, hD, hn, hput⟩ := hT51.at6
                    refine W.call Try.call18 rfl (Disk.Crash_ok F g6 _ D p.n _ hD) rfl ?_
                    rintro v101 w101 ⟨hD101, hc101⟩
                    have hT101 := hput hD101 hc101
                    have hB101 := hB51.chg hc101 (fun h => hn _ h hZg)
                    refine W.nil ?_
                    refine At.thenCode ?_
                    refine C.region ?_
                    refine W.move rfl rfl ?_
                    refine W.fieldB (off := 1) (size := 1) (t := 3) (Fld.of (by kernel_rfl)) rfl rfl rfl ?_
                    refine W.loadB rfl Try.underlying3 rfl (by assumption) rfl rfl ?_
                    obtain ⟨F, hD, hn, hput⟩ := hT101.at8
                    refine W.call Try.call24 rfl (Disk.RCrash_ok F g8 _ D p.n _ hD) rfl ?_
                    rintro v105 w105 ⟨hD105, hc105⟩
                    have hT105 := hput hD105 hc105
                    refine W.nil ?_
                    refine At.blockNormal ?_
                    refine At.thenMid (0, crashD D p.n) (Sub.cons (rfl) (Sub.cons (rfl) (Sub.cons (rfl) (Sub.cons (rfl) (Sub.cons (rfl) (Sub.cons (rfl) (Sub.cons (rfl) (Sub.nil)))))))) (show (crashD D p.n).bs.length ≤ 200 * (i + 1) ∧ Tri w Z _ g6 g7 g8 (max 0 room) (max 0 9) room (crashD D p.n) (appD D7 [1]) (crashD D p.n) from ?_)
                    exact ⟨by have := crash_len D p.n; omega, hT105⟩
                  · refine C.seq ?_
                    refine C.region ?_
                    refine W.eqlI rfl rfl rfl ?_
                    refine W.assign rfl rfl ?_
                    refine W.nil ?_
                    refine At.thenCode ?_
                    first | refine C.condD rfl (fun c106 => ?_) (fun c106 => ?_) | refine C.cond rfl (fun c106 => ?_) (fun c106 => ?_)
                    · refine C.seq ?_
                      refine C.region ?_
                      refine W.move rfl rfl ?_
                      refine W.fieldB (off := 3) (size := 1) (t := 22) (Fld.of (by kernel_rfl)) rfl rfl rfl ?_
                      refine W.loadB rfl Try.underlying22 rfl (by assumption) rfl rfl ?_
                      refine W.append (cs := []) XI Try.underlying22 rfl rfl (World.ownsRow_nil _ w51.heap.size 3 1) (Sl.ext hZw hT51.1) (z_oneCell p.l) (by omega) (by omega) (Nat.le_refl _) rfl ?_
                      rw [List.nil_append, Nat.zero_add]
                      intro v111 w111 ho111 hg111 _
                      have hX111 : Ext w51 w111 := (Chg.of_grown hg111).mono fun k hk => by cases hk
                      obtain ⟨ao111, c111, rfl, hS111, _⟩ := ownsRow_form ho111
                      have hT111 := hT51.ext hX111
                      obtain ⟨F, hD, hn, hput⟩ := hT111.at6
                      refine W.call Try.call13 rfl (Disk.Fail_ok F g6 _ D _ _ p.l _ hD hS111 (by omega)) rfl ?_
                      rintro v112 w112 ⟨hD112, hc112⟩
                      have hT112 := hput hD112 hc112
                      have hB112 := (hB51.ext hX111).chg hc112 (fun h => hn _ h hZg)
                      refine W.nil ?_
                      refine At.thenCode ?_
                      refine C.region ?_
                      refine W.move rfl rfl ?_
                      refine W.fieldB (off := 3) (size := 1) (t := 22) (Fld.of (by kernel_rfl)) rfl rfl rfl ?_
                      refine W.loadB rfl Try.underlying22 rfl (by assumption) rfl rfl ?_
                      obtain ⟨F, hD, hn, hput⟩ := hT112.at8
                      refine W.call Try.call25 rfl (Disk.RFail_ok F g8 _ D _ _ p.l _ hD (Sl.ext hZw hT112.1) (by omega)) rfl ?_
                      rintro v116 w116 ⟨hD116, hc116⟩
                      have hT116 := hput hD116 hc116
                      refine W.nil ?_
                      refine At.blockNormal ?_
                      refine At.thenMid (0, setFails D p.l) (Sub.cons (rfl) (Sub.cons (rfl) (Sub.cons (rfl) (Sub.cons (rfl) (Sub.cons (rfl) (Sub.cons (rfl) (Sub.cons (rfl) (Sub.nil)))))))) (show (setFails D p.l).bs.length ≤ 200 * (i + 1) ∧ Tri w Z _ g6 g7 g8 (max 0 room) (max 0 9) room (setFails D p.l) (appD D7 [1]) (setFails D p.l) from ?_)
                      exact ⟨by show D.bs.length ≤ _; omega, hT116⟩
                    · refine C.skip ?_
                      refine At.blockNormal ?_
                      refine At.thenMid (0, D) (Sub.cons (rfl) (Sub.cons (rfl) (Sub.cons (rfl) (Sub.cons (rfl) (Sub.cons (rfl) (Sub.cons (rfl) (Sub.cons (rfl) (Sub.nil)))))))) (show (D).bs.length ≤ 200 * (i + 1) ∧ Tri w Z _ g6 g7 g8 (max 0 room) (max 0 9) room (D) (appD D7 [1]) (D) from ?_)
                      exact ⟨by omega, hT51⟩
          · rintro ⟨e, E⟩ wm2 hI_
            replace hI_ : E.bs.length ≤ 200 * (i + 1) ∧ Tri w Z wm2 g6 g7 g8 (max 0 room) (max 0 9) room E (appD D7 [1]) E := hI_
            obtain ⟨hEl, hTm⟩ := hI_
            refine C.weaken (l' := [(1, .slice ao xs.length c), (6, .pointer (some ⟨g6, 0, none⟩)), (7, .pointer (some ⟨g7, 0, none⟩)), (8, .pointer (some ⟨g8, 0, none⟩)), (9, .int .i64 (i : Int)), (11, .int .i64 (e : Int)), (12, .int .i64 (e : Int))]) (Sub.cons (rfl) (Sub.cons (rfl) (Sub.cons (rfl) (Sub.cons (rfl) (Sub.cons (rfl) (Sub.cons (rfl) (Sub.cons (rfl) (Sub.nil)))))))) ?_
            refine C.seq ?_
            refine C.regionAny 13 ((fun v w => v = .int .i64 (e : Int)) :: (fun v w => v = .int .i64 (e : Int)) :: (fun v w => v = .int .i64 (e : Int)) :: (fun v w => v = .bool false) :: (fun v w => v = .bool false) :: (fun v w => v = .pointer (some ⟨g6, 0, none⟩)) :: (fun v w => Rep w v E.bs) :: (fun v w => v = strV E.bs) :: (fun v w => v = .pointer (some ⟨g8, 0, none⟩)) :: (fun v w => Rep w v E.bs) :: (fun v w => v = strV E.bs) :: (fun v w => v = .bool false) :: (fun v w => v = .bool false) :: []) [(1, .slice ao xs.length c), (6, .pointer (some ⟨g6, 0, none⟩)), (7, .pointer (some ⟨g7, 0, none⟩)), (8, .pointer (some ⟨g8, 0, none⟩)), (9, .int .i64 (i : Int)), (11, .int .i64 (e : Int)), (12, .int .i64 (e : Int))] [] (Sub.cons (rfl) (Sub.cons (rfl) (Sub.cons (rfl) (Sub.cons (rfl) (Sub.cons (rfl) (Sub.cons (rfl) (Sub.cons (rfl) (Sub.nil)))))))) (Sub.nil) (Sub.cons (rfl) (Sub.cons (rfl) (Sub.cons (rfl) (Sub.cons (rfl) (Sub.cons (rfl) (Sub.cons (rfl) (Sub.cons (rfl) (Sub.nil)))))))) (by kernel_rfl) rfl rfl rfl (And.intro (fun _ _ _ h _ => h) (And.intro (fun _ _ _ h _ => h) (And.intro (fun _ _ _ h _ => h) (And.intro (fun _ _ _ h _ => h) (And.intro (fun _ _ _ h _ => h) (And.intro (fun _ _ _ h _ => h) (And.intro (fun _ _ _ h g => Rep.ext h g) (And.intro (fun _ _ _ h _ => h) (And.intro (fun _ _ _ h _ => h) (And.intro (fun _ _ _ h g => Rep.ext h g) (And.intro (fun _ _ _ h _ => h) (And.intro (fun _ _ _ h _ => h) (And.intro (fun _ _ _ h _ => h) (trivial)))))))))))))) ?_ ?_
            · refine And.intro ?_ ?_
              · intro L_ wr hX_ hs_ hf_ hd_
                refine W.step [(11, _)] (Sub.cons (hs_ _ _ rfl) (Sub.refl _)) ?_
                refine W.move rfl rfl ?_
                refine W.nil ?_
                exact At.step (Ext.refl _) rfl
              refine And.intro ?_ ?_
              · intro L_ wr hX_ hs_ hf_ hd_
                obtain ⟨v0, e0, r0⟩ := hd_ 0 rfl
                obtain rfl : (.int .i64 (e : Int) : Value) = v0 := Eq.symm r0
                refine W.step [(117, _)] (Sub.cons (e0 _ rfl) (Sub.refl _)) ?_
                refine W.call Try.call15 rfl (num_ok _ _) rfl ?_
                rintro v118 w118 ⟨rfl, rfl⟩
                refine W.nil ?_
                exact At.step (Ext.refl _) rfl
              refine And.intro ?_ ?_
              · intro L_ wr hX_ hs_ hf_ hd_
                refine W.step [(12, _)] (Sub.cons (hs_ _ _ rfl) (Sub.refl _)) ?_
                refine W.move rfl rfl ?_
                refine W.nil ?_
                exact At.step (Ext.refl _) rfl
              refine And.intro ?_ ?_
              · intro L_ wr hX_ hs_ hf_ hd_
                obtain ⟨v1, e1, r1⟩ := hd_ 1 rfl
                obtain rfl : (.int .i64 (e : Int) : Value) = v1 := Eq.symm r1
                obtain ⟨v2, e2, r2⟩ := hd_ 2 rfl
                obtain rfl : (.int .i64 (e : Int) : Value) = v2 := Eq.symm r2
                refine W.step [(118, _), (119, _)] (Sub.cons (e1 _ rfl) (Sub.cons (e2 _ rfl) (Sub.refl _))) ?_
                refine W.neqI rfl rfl rfl ?_
                refine W.eqv (bF (fun h => h rfl)) ?_
                refine W.nil ?_
                exact At.step (Ext.refl _) rfl
              refine And.intro ?_ ?_
              · intro L_ wr hX_ hs_ hf_ hd_
                obtain ⟨v3, e3, r3⟩ := hd_ 3 rfl
                obtain rfl : (.bool false : Value) = v3 := Eq.symm r3
                refine W.step [(120, _)] (Sub.cons (e3 _ rfl) (Sub.refl _)) ?_
                refine W.move rfl rfl ?_
                refine W.nil ?_
                exact At.step (Ext.refl _) rfl
              refine And.intro ?_ ?_
              · intro L_ wr hX_ hs_ hf_ hd_
                obtain ⟨v4, e4, r4⟩ := hd_ 4 rfl
                obtain rfl : (.bool false : Value) = v4 := Eq.symm r4
                refine W.step [(6, _), (121, _)] (Sub.cons (hs_ _ _ rfl) (Sub.cons (e4 _ rfl) (Sub.refl _))) ?_
                refine W.wants rfl rfl rfl rfl ?_
                refine W.move rfl rfl ?_
                refine W.nil ?_
                exact At.step (Ext.refl _) rfl
              refine And.intro ?_ ?_
              · intro L_ wr hX_ hs_ hf_ hd_
                obtain ⟨v5, e5, r5⟩ := hd_ 5 rfl
                obtain rfl : (.pointer (some ⟨g6, 0, none⟩) : Value) = v5 := Eq.symm r5
                obtain ⟨v4, e4, r4⟩ := hd_ 4 rfl
                obtain rfl : (.bool false : Value) = v4 := Eq.symm r4
                refine W.step [(122, _), (121, _)] (Sub.cons (e5 _ rfl) (Sub.cons (e4 _ rfl) (Sub.refl _))) ?_
                refine W.wants rfl rfl rfl rfl ?_
                obtain ⟨F, hD, hn, hput⟩ := (hTm.ext hX_).at6
                refine W.call Try.call16 rfl (Disk.Bytes_ok F g6 _ E _ hD) rfl ?_
                rintro v123 w123 ⟨⟨ao123, c123, rfl, hS123, _⟩, hX123⟩
                refine W.nil ?_
                exact At.step hX123 ⟨_, _, rfl, hS123⟩
              refine And.intro ?_ ?_
              · intro L_ wr hX_ hs_ hf_ hd_
                obtain ⟨v6, e6, r6⟩ := hd_ 6 rfl
                obtain ⟨a6, c6, rfl, hS6⟩ := r6
                obtain ⟨v4, e4, r4⟩ := hd_ 4 rfl
                obtain rfl : (.bool false : Value) = v4 := Eq.symm r4
                refine W.step [(123, _), (121, _)] (Sub.cons (e6 _ rfl) (Sub.cons (e4 _ rfl) (Sub.refl _))) ?_
                refine W.wants rfl rfl rfl rfl ?_
                refine W.bytesStr Try.underlying23 Try.underlying5 Try.underlying9 rfl hS6 rfl ?_
                refine W.nil ?_
                exact At.step (Ext.refl _) rfl
              refine And.intro ?_ ?_
              · intro L_ wr hX_ hs_ hf_ hd_
                obtain ⟨v4, e4, r4⟩ := hd_ 4 rfl
                obtain rfl : (.bool false : Value) = v4 := Eq.symm r4
                refine W.step [(8, _), (121, _)] (Sub.cons (hs_ _ _ rfl) (Sub.cons (e4 _ rfl) (Sub.refl _))) ?_
                refine W.wants rfl rfl rfl rfl ?_
                refine W.move rfl rfl ?_
                refine W.nil ?_
                exact At.step (Ext.refl _) rfl
              refine And.intro ?_ ?_
              · intro L_ wr hX_ hs_ hf_ hd_
                obtain ⟨v8, e8, r8⟩ := hd_ 8 rfl
                obtain rfl : (.pointer (some ⟨g8, 0, none⟩) : Value) = v8 := Eq.symm r8
                obtain ⟨v4, e4, r4⟩ := hd_ 4 rfl
                obtain rfl : (.bool false : Value) = v4 := Eq.symm r4
                refine W.step [(125, _), (121, _)] (Sub.cons (e8 _ rfl) (Sub.cons (e4 _ rfl) (Sub.refl _))) ?_
                refine W.wants rfl rfl rfl rfl ?_
                obtain ⟨F, hD, hn, hput⟩ := (hTm.ext hX_).at8
                refine W.call Try.call26 rfl (Disk.RBytes_ok F g8 _ E _ hD) rfl ?_
                rintro v126 w126 ⟨⟨ao126, c126, rfl, hS126, _⟩, hX126⟩
                refine W.nil ?_
                exact At.step hX126 ⟨_, _, rfl, hS126⟩
              refine And.intro ?_ ?_
              · intro L_ wr hX_ hs_ hf_ hd_
                obtain ⟨v9, e9, r9⟩ := hd_ 9 rfl
                obtain ⟨a9, c9, rfl, hS9⟩ := r9
                obtain ⟨v4, e4, r4⟩ := hd_ 4 rfl
                obtain rfl : (.bool false : Value) = v4 := Eq.symm r4
                refine W.step [(126, _), (121, _)] (Sub.cons (e9 _ rfl) (Sub.cons (e4 _ rfl) (Sub.refl _))) ?_
                refine W.wants rfl rfl rfl rfl ?_
                refine W.bytesStr Try.underlying23 Try.underlying5 Try.underlying9 rfl hS9 rfl ?_
                refine W.nil ?_
                exact At.step (Ext.refl _) rfl
              refine And.intro ?_ ?_
              · intro L_ wr hX_ hs_ hf_ hd_
                obtain ⟨v7, e7, r7⟩ := hd_ 7 rfl
                obtain rfl : (strV E.bs : Value) = v7 := Eq.symm r7
                obtain ⟨v10, e10, r10⟩ := hd_ 10 rfl
                obtain rfl : (strV E.bs : Value) = v10 := Eq.symm r10
                obtain ⟨v4, e4, r4⟩ := hd_ 4 rfl
                obtain rfl : (.bool false : Value) = v4 := Eq.symm r4
                refine W.step [(124, _), (127, _), (121, _)] (Sub.cons (e7 _ rfl) (Sub.cons (e10 _ rfl) (Sub.cons (e4 _ rfl) (Sub.refl _)))) ?_
                refine W.wants rfl rfl rfl rfl ?_
                refine W.neqStr rfl rfl rfl ?_
                refine W.eqv (bF (fun h => h rfl)) ?_
                refine W.nil ?_
                exact At.step (Ext.refl _) rfl
              refine And.intro ?_ ?_
              · intro L_ wr hX_ hs_ hf_ hd_
                obtain ⟨v4, e4, r4⟩ := hd_ 4 rfl
                obtain rfl : (.bool false : Value) = v4 := Eq.symm r4
                obtain ⟨v11, e11, r11⟩ := hd_ 11 rfl
                obtain rfl : (.bool false : Value) = v11 := Eq.symm r11
                refine W.step [(121, _), (128, _)] (Sub.cons (e4 _ rfl) (Sub.cons (e11 _ rfl) (Sub.refl _))) ?_
                refine W.pickF rfl rfl rfl ?_
                refine W.nil ?_
                exact At.step (Ext.refl _) rfl
              exact trivial
            · intro L_ wr hX37 hs_ hv_
              obtain ⟨v12, e12, r12⟩ := hv_ 12 (by decide)
              obtain rfl : (.bool false : Value) = v12 := Eq.symm r12
              refine W.weaken (l' := [(129, _), (1, _), (6, _), (7, _), (8, _), (9, _), (11, _), (12, _)]) (Sub.cons (e12 _ rfl) (Sub.cons (hs_ _ _ rfl) (Sub.cons (hs_ _ _ rfl) (Sub.cons (hs_ _ _ rfl) (Sub.cons (hs_ _ _ rfl) (Sub.cons (hs_ _ _ rfl) (Sub.cons (hs_ _ _ rfl) (Sub.cons (hs_ _ _ rfl) (Sub.nil))))))))) ?_
              refine W.nil ?_
              refine At.thenCode ?_
              refine C.condF rfl ?_
              refine C.skip ?_
              refine At.blockNormal ?_
              refine At.thenCode ?_
              refine C.region ?_
              refine W.move rfl rfl ?_
              first | refine W.addI rfl rfl (by omega) rfl ?_ | refine W.addW rfl rfl rfl ?_
              refine W.assign rfl rfl ?_
              refine W.nil ?_
              refine At.thenRound (i + 1, E, appD D7 [1]) (Sub.cons (rfl) (Sub.cons (rfl) (Sub.cons (rfl) (Sub.cons (rfl) (Sub.cons (look_eq rfl (iV (by omega))) (Sub.nil)))))) (show (i + 1) ≤ xs.length ∧ (E).bs.length ≤ 200 * (i + 1) ∧ Tri w Z0 _ g6 g7 g8 (max 0 room) (max 0 9) room (E) (appD D7 [1]) (E) from ?_) (show xs.length - (i + 1) < xs.length - i from ?_)
              · exact ⟨by omega, by omega, (hTm.ext hX37).less hZ0 hz0⟩
              · omega
    · refine C.exit ?_
      refine At.thenExit ?_
      refine At.thenExit ?_
      refine At.blockSelf ?_
      refine At.thenCode ?_
      refine C.seq ?_
      refine C.region ?_
      refine W.assign rfl rfl ?_
      refine W.nil ?_
      refine At.thenCode ?_
      refine C.ret ?_
      refine At.ret1 Try.results5 rfl ?_
      first
      | exact ⟨rfl, Ext.below hX15⟩
      | exact ⟨rfl, Ext.below hX11w⟩
      | exact ⟨rfl, Ext.below hT1.1⟩
end Go.Proofs.Ytnldohjhjoldaaa.Law22
