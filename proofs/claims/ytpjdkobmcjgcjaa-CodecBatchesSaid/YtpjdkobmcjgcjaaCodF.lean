/- Package codec's functions that write: notes, submissions, batches. -/
import Derived.Test.YtpjdkobmcjgcjaaCodE
namespace Go.Proofs.Ytpjdkobmcjgcjaa.Cod
open Go Go.RowKit Go.Proofs.Ytpjdkobmcjgcjaa.KW Go.Proofs.Ytpjdkobmcjgcjaa.Words Go.Proofs.Ytpjdkobmcjgcjaa.Grp
set_option linter.unusedVariables false
set_option linter.unusedSimpArgs false
set_option maxRecDepth 100000
def noteC (n : NoteD) : List Value := [u64V n.seq, u64V n.ack] ++ n.pay.map byteV
theorem noteC_length {n : NoteD} (h : NoteOk n) : (noteC n).length = 34 := by unfold noteC; simp [h.2.2]
theorem noteC_one (n : NoteD) : ∀ u ∈ noteC n, u.oneCell' = true := by
  intro u hu
  rcases List.mem_append.1 hu with hu | hu
  · simp only [List.mem_cons, List.not_mem_nil, or_false] at hu
    rcases hu with rfl | rfl <;> rfl
  · exact bytes_oneCell _ u hu
/-- Bytes of a block from a place on. -/
theorem Bk.bs {w : World} {g o : Nat} {cs : List Value} {xs : List UInt8} (h : Bk w g cs) (e : (cs.drop o).take xs.length = xs.map byteV) : Bs w (some ⟨g, o, none⟩) xs.length xs := by
  refine ⟨Nat.le_refl _, by simp, (fun e => by cases e), fun ad ea => ?_⟩
  obtain rfl := Option.some.inj ea
  rw [← e]
  exact Bk.cellsN h
/-- A new writer in a row of operations. -/
theorem wr_end {w w' : World} {g base : Nat} {xs : List UInt8} (h : Wr w' g base xs) (hb : w.heap.size ≤ base) : ∃ a c, Bk w' g [.slice a xs.length c] ∧ NewB w w' a c xs := by
  obtain ⟨v, h1, h2, h3⟩ := h.own
  obtain ⟨a, c, rfl, hs, hbb⟩ := ownsRow_form h2
  exact ⟨a, c, h1, hs, fun ad e _ => Nat.le_trans hb (hbb ad e)⟩
theorem Note_ok (n : NoteD) (w : World) (hn : NoteOk n) :
    Ct Try.prog 11 #[.agg (noteC n).toArray] w (fun v w' => ∃ ao' c', v = .slice ao' (noteB n).length c' ∧ NewB w w' ao' c' (noteB n) ∧ Ext w w') := by
  refine Ct.enter [(0, .agg (noteC n).toArray)] Try.func11 rfl rfl rfl rfl ?_
  refine C.seq ?_
  refine C.region ?_
  refine W.box (noteC n) rfl rfl rfl ?_
  intro g1 w1 hg1 hX1 hB1
  refine W.assign rfl rfl ?_
  refine W.nil ?_
  refine At.thenCode ?_
  refine C.seq ?_
  refine C.region ?_
  refine W.buildS (fs := _) [(0, 1)] [.slice none 0 0] [.slice none 0 0] Try.underlying78 (by kernel_rfl) (by kernel_rfl) rfl rfl rfl ?_
  refine W.box [.slice none 0 0] rfl rfl rfl ?_
  intro g5 w5 hg5 hX5 hB5
  have hX5a := hX1.ext hX5
  have hW5 : Wr w5 g5 w.heap.size [] := Wr.mk' (by have := hX1.size; omega) hB5
  have hB1a := hB1.ext hX5
  refine W.assign rfl rfl ?_
  refine W.nil ?_
  refine At.thenCode ?_
  refine C.seq ?_
  refine C.region ?_
  refine W.move rfl rfl ?_
  refine W.fieldB (off := 0) (size := 1) (t := 22) (Fld.of (by kernel_rfl)) rfl rfl rfl ?_
  refine W.loadB (v := u64V n.seq) rfl Try.underlying22 rfl hB1a rfl rfl ?_
  refine W.fieldB (off := 1) (size := 1) (t := 22) (Fld.of (by kernel_rfl)) rfl rfl rfl ?_
  refine W.loadB (v := u64V n.ack) rfl Try.underlying22 rfl hB1a rfl rfl ?_
  refine W.litV ([n.seq, n.ack].map u64V) U64 Try.underlying57 rfl rfl (u64_oneCell _) rfl rfl rfl ?_
  intro g11 w11 hg11 hX11 _ hs11
  have hB1b := hB1a.ext hX11
  have hP11 := hW5.ext hX11
  refine W.call Try.call33 rfl (Cod.put_ok g5 _ _ 2 [n.seq, n.ack] _ _ hP11.wr hs11 (fun ad e _ hc => by obtain rfl := Option.some.inj e; exact hW5.fresh hX11 (k := g11) (by omega) hc) (by simp)) rfl ?_
  rintro v12 w12 ⟨rfl, hP12⟩
  have hX12 := hP12.old hP11.wr (Nat.le_refl _) (hX5a.ext hX11)
  have hB12 := hP12.bk hB1b (fun hc => by
    rcases hP11.ws _ hc with h | h
    · rcases h with rfl | ⟨q, h1, h2⟩
      · have := hB1.lt; omega
      · obtain rfl := Bk.one hB5 h1; cases h2
    · have := hB1a.lt; omega)
  refine W.nil ?_
  refine At.thenCode ?_
  refine C.seq ?_
  refine C.region ?_
  refine W.move rfl rfl ?_
  refine W.fieldB (off := 2) (size := 32) (t := 23) (Fld.of (by kernel_rfl)) rfl rfl rfl ?_
  refine W.sliceA X8 Try.underlying23 rfl rfl ?_
  have hs16 : Bs w12 (some ⟨g1, 2, none⟩) 32 n.pay := by
    have := Bk.bs (o := 2) (xs := n.pay) hB12 (by show (n.pay.map byteV).take n.pay.length = _; rw [List.take_of_length_le (by simp)])
    rwa [hn.2.2] at this
  have hby := Cod.bytes_ok g5 _ (some ⟨g1, 2, none⟩) 32 n.pay _ _ hP12.wr hs16 (by simp [putsL, be64_length]; have := hn.2.2; omega)
  rw [hn.2.2] at hby
  refine W.call Try.call34 rfl hby rfl ?_
  rintro v16 w16 ⟨rfl, hP16⟩
  have hX16 := hP16.old hP12.wr (Nat.le_refl _) hX12
  have hW16 : Wr w16 g5 w.heap.size (noteB n) := by
    have := hP16.wr
    simpa [putsL, noteB] using this
  obtain ⟨aR, cR, hBR, hNR⟩ := wr_end hW16 (Nat.le_refl _)
  refine W.nil ?_
  refine At.thenCode ?_
  refine C.seq ?_
  refine C.region ?_
  refine W.move rfl rfl ?_
  refine W.nilCheck rfl rfl ?_
  refine W.fieldB (off := 0) (size := 1) (t := 27) (Fld.of (by kernel_rfl)) rfl rfl rfl ?_
  refine W.loadB rfl Try.underlying27 rfl (by assumption) rfl rfl ?_
  refine W.assign rfl rfl ?_
  refine W.nil ?_
  refine At.thenCode ?_
  refine C.ret ?_
  refine At.ret1 Try.results11 rfl ?_
  exact ⟨aR, cR, rfl, hNR, hX16⟩
def subC (s : SubD) (v : Value) : List Value := s.user.map byteV ++ [u64V s.x, v, u64V s.c1, u64V s.s1, u64V s.c2, u64V s.s2]
theorem subC_get {s : SubD} {v : Value} (h : s.user.length = 32) (j : Nat) : (subC s v)[32 + j]? = ([u64V s.x, v, u64V s.c1, u64V s.s1, u64V s.c2, u64V s.s2] : List Value)[j]? := by
  unfold subC
  rw [List.getElem?_append_right (by rw [List.length_map]; omega), List.length_map, h]
  congr 1; omega
theorem Submission_ok (s : SubD) (vb : Value) (w : World) (hS : RSub (fun _ => False) w (subC s vb) s) (hv : RByt (fun _ => False) w [vb] s.box) (ho : SubOk s) (hlen : s.box.length ≤ 9223372036854775807) :
    Ct Try.prog 15 #[.agg (subC s vb).toArray] w (fun v w' => ∃ ao' c', v = .tuple #[.slice ao' (subB s).length c', .int .i64 (subE s : Int)] ∧ NewB w w' ao' c' (subB s) ∧ Ext w w') := by
  refine Ct.enter [(0, .agg (subC s vb).toArray)] Try.func15 rfl rfl rfl rfl ?_
  have hg0 := subC_get (v := vb) ho.1 0
  have hg1 := subC_get (v := vb) ho.1 1
  have hvb : RByt (fun k => w.heap.size ≤ k) w [vb] s.box := rByt.new hv fun k h1 h2 => by omega
  obtain ⟨ab, cb, rfl, hsb, _⟩ := hv.form
  refine C.seq ?_
  refine C.region ?_
  refine W.box (subC s (.slice ab s.box.length cb)) rfl rfl rfl ?_
  intro g1 w1 hg1' hX1 hB1
  refine W.assign rfl rfl ?_
  refine W.assign rfl rfl ?_
  refine W.nil ?_
  refine At.thenCode ?_
  refine C.seq ?_
  refine C.seq ?_
  refine C.region ?_
  refine W.fieldB (off := 32) (size := 2) (t := 36) (Fld.of (by kernel_rfl)) rfl rfl rfl ?_
  refine W.fieldB (off := 1) (size := 1) (t := 27) (Fld.of (by kernel_rfl)) rfl rfl rfl ?_
  refine W.loadB (v := .slice ab s.box.length cb) rfl Try.underlying27 rfl hB1 hg1 rfl ?_
  refine W.lenS rfl Try.underlying27 rfl ?_
  refine W.gtrI rfl rfl rfl ?_
  refine W.nil ?_
  refine At.thenCode ?_
  first | refine C.condD rfl (fun c9 => ?_) (fun c9 => ?_) | refine C.cond rfl (fun c9 => ?_) (fun c9 => ?_)
  · have hEE : subE s = 3 := by unfold subE; rw [if_pos (by omega)]
    have hEB : subB s = [] := by unfold subB; rw [hEE]; rfl
    refine C.seq ?_
    refine C.region ?_
    refine W.assign rfl rfl ?_
    refine W.assign rfl rfl ?_
    refine W.nil ?_
    refine At.thenCode ?_
    refine C.ret ?_
    refine At.thenRet ?_
    refine At.ret2 Try.results15 rfl rfl ?_
    exact ⟨none, 0, by rw [hEB, hEE]; rfl, by rw [hEB]; exact NewB.nil _ _, hX1⟩
  · have hb20 : s.box.length ≤ 1048576 := by omega
    refine C.skip ?_
    refine At.thenCode ?_
    refine C.seq ?_
    refine C.seq ?_
    refine C.region ?_
    refine W.fieldB (off := 32) (size := 2) (t := 36) (Fld.of (by kernel_rfl)) rfl rfl rfl ?_
    refine W.fieldB (off := 0) (size := 1) (t := 22) (Fld.of (by kernel_rfl)) rfl rfl rfl ?_
    refine W.loadB (v := u64V s.x) rfl Try.underlying22 rfl hB1 hg0 rfl ?_
    refine W.call Try.call39 rfl (Grp.Right_ok _ _) rfl ?_
    rintro v w' ⟨rfl, rfl⟩
    first | refine W.notD rfl rfl ?_ | refine W.notB rfl rfl ?_
    refine W.nil ?_
    refine At.thenCode ?_
    first | refine C.condD rfl (fun c14 => ?_) (fun c14 => ?_) | refine C.cond rfl (fun c14 => ?_) (fun c14 => ?_)
    · have hEE : subE s = 1 := by unfold subE; rw [if_neg (by omega), if_neg (by simpa using c14)]
      have hEB : subB s = [] := by unfold subB; rw [hEE]; rfl
      refine C.seq ?_
      refine C.region ?_
      refine W.assign rfl rfl ?_
      refine W.assign rfl rfl ?_
      refine W.nil ?_
      refine At.thenCode ?_
      refine C.ret ?_
      refine At.thenRet ?_
      refine At.ret2 Try.results15 rfl rfl ?_
      exact ⟨none, 0, by rw [hEB, hEE]; rfl, by rw [hEB]; exact NewB.nil _ _, hX1⟩
    · have hEE : subE s = 0 := by unfold subE; rw [if_neg (by omega), if_pos (by simpa using c14)]
      have hEB : subB s = s.user ++ (be64 s.x ++ (be64 s.box.length ++ (s.box ++ (be64 s.c1 ++ (be64 s.s1 ++ (be64 s.c2 ++ be64 s.s2)))))) := by unfold subB; rw [if_pos hEE]
      refine C.skip ?_
      refine At.thenCode ?_
      refine C.seq ?_
      refine C.region ?_
      refine W.buildS (fs := _) [(0, 1)] [.slice none 0 0] [.slice none 0 0] Try.underlying78 (by kernel_rfl) (by kernel_rfl) rfl rfl rfl ?_
      refine W.box [.slice none 0 0] rfl rfl rfl ?_
      intro g16 w16 hg16 hX16 hB16
      have hX16a := hX1.ext hX16
      have hW16 : Wr w16 g16 w.heap.size [] := Wr.mk' (by have := hX1.size; omega) hB16
      have hB1a := hB1.ext hX16
      have hn16 : ¬ WS w16 g16 g1 := by
        rintro (rfl | ⟨q, h1, h2⟩)
        · have := hB1.lt; omega
        · obtain rfl := Bk.one hB16 h1; cases h2
      refine W.assign rfl rfl ?_
      refine W.nil ?_
      refine At.thenCode ?_
      refine C.seq ?_
      refine C.region ?_
      refine W.move rfl rfl ?_
      refine W.fieldB (off := 0) (size := 32) (t := 34) (Fld.of (by kernel_rfl)) rfl rfl rfl ?_
      refine W.sliceA X8 Try.underlying34 rfl rfl ?_
      have hs20 : Bs w16 (some ⟨g1, 0, none⟩) 32 s.user := by
        have := Bk.bs (o := 0) (xs := s.user) hB1a (by unfold subC; rw [List.drop_zero, List.take_append_of_le_length (by simp), List.take_of_length_le (by simp)])
        rwa [ho.1] at this
      have hby := Cod.bytes_ok g16 _ (some ⟨g1, 0, none⟩) 32 s.user _ _ hW16 hs20 (by have := ho.1; simp; omega)
      rw [ho.1] at hby
      refine W.call Try.call34 rfl hby rfl ?_
      rintro v20 w20 ⟨rfl, hP20⟩
      have hX20 := hP20.old hW16 (Nat.le_refl _) hX16a
      have hB20 := hP20.bk hB1a hn16
      have hn20 : ¬ WS w20 g16 g1 := fun hc => by
        rcases hP20.ws _ hc with h | h
        · exact hn16 h
        · have := hB1a.lt; omega
      refine W.nil ?_
      refine At.thenCode ?_
      refine C.seq ?_
      refine C.region ?_
      refine W.move rfl rfl ?_
      refine W.fieldB (off := 32) (size := 2) (t := 36) (Fld.of (by kernel_rfl)) rfl rfl rfl ?_
      refine W.fieldB (off := 0) (size := 1) (t := 22) (Fld.of (by kernel_rfl)) rfl rfl rfl ?_
      refine W.loadB (v := u64V s.x) rfl Try.underlying22 rfl hB20 hg0 rfl ?_
      refine W.fieldB (off := 32) (size := 2) (t := 36) (Fld.of (by kernel_rfl)) rfl rfl rfl ?_
      refine W.fieldB (off := 1) (size := 1) (t := 27) (Fld.of (by kernel_rfl)) rfl rfl rfl ?_
      refine W.loadB (v := .slice ab s.box.length cb) rfl Try.underlying27 rfl hB20 hg1 rfl ?_
      refine W.lenS rfl Try.underlying27 rfl ?_
      first | refine W.convIN (M := 18446744073709551616) rfl Try.underlying3 Try.underlying22 rfl rfl (by omega) rfl ?_ | refine W.convIU (M := 18446744073709551616) rfl Try.underlying3 Try.underlying22 rfl rfl rfl ?_
      refine W.eqv (v' := u64V s.box.length) (iV (by omega)) ?_
      refine W.litV ([s.x, s.box.length].map u64V) U64 Try.underlying57 rfl rfl (u64_oneCell _) rfl rfl rfl ?_
      intro g30 w30 hg30 hX30 _ hs30
      have hP30 := hP20.wr.ext hX30
      refine W.call Try.call33 rfl (Cod.put_ok g16 _ _ 2 [s.x, s.box.length] _ _ hP30.wr hs30 (fun ad e _ hc => by obtain rfl := Option.some.inj e; exact hP20.wr.fresh hX30 (k := g30) (by omega) hc) (by have := ho.1; simp; omega)) rfl ?_
      rintro v31 w31 ⟨rfl, hP31⟩
      have hX31 := hP31.old hP30.wr (Nat.le_refl _) (hX20.ext hX30)
      have hn30 : ¬ WS w30 g16 g1 := fun hc => by
        rcases hP30.ws _ hc with h | h
        · exact hn20 h
        · have := hB20.lt; omega
      have hB31 := hP31.bk (hB20.ext hX30) hn30
      have hn31 : ¬ WS w31 g16 g1 := fun hc => by
        rcases hP31.ws _ hc with h | h
        · exact hn30 h
        · have := (hB20.ext hX30).lt; omega
      refine W.nil ?_
      refine At.thenCode ?_
      refine C.seq ?_
      refine C.region ?_
      refine W.move rfl rfl ?_
      refine W.fieldB (off := 32) (size := 2) (t := 36) (Fld.of (by kernel_rfl)) rfl rfl rfl ?_
      refine W.fieldB (off := 1) (size := 1) (t := 27) (Fld.of (by kernel_rfl)) rfl rfl rfl ?_
      refine W.loadB (v := .slice ab s.box.length cb) rfl Try.underlying27 rfl hB31 hg1 rfl ?_
      refine W.call Try.call34 rfl (Cod.bytes_ok g16 _ _ _ s.box _ _ hP31.wr (hsb.ext hX31) (by have := ho.1; simp [putsL, be64_length]; omega)) rfl ?_
      rintro v36 w36 ⟨rfl, hP36⟩
      have hX36 := hP36.old hP31.wr (Nat.le_refl _) hX31
      have hB36 := hP36.bk hB31 hn31
      have hn36 : ¬ WS w36 g16 g1 := fun hc => by
        rcases hP36.ws _ hc with h | h
        · exact hn31 h
        · have := hB31.lt; omega
      refine W.nil ?_
      refine At.thenCode ?_
      refine C.seq ?_
      refine C.region ?_
      refine W.move rfl rfl ?_
      refine W.fieldB (off := 34) (size := 2) (t := 38) (Fld.of (by kernel_rfl)) rfl rfl rfl ?_
      have hc39 : Cells w36 ⟨g1, 34, none⟩ [u64V s.c1, u64V s.s1] := by
        have := Bk.cellsN (o := 34) (n := 2) hB36
        rwa [show ((subC s (.slice ab s.box.length cb)).drop 34).take 2 = [u64V s.c1, u64V s.s1] from by unfold subC; rw [List.drop_append, List.drop_of_length_le (by simp [ho.1]), List.length_map, ho.1]; rfl] at this
      refine W.loadA rfl hc39 Try.underlying38 rfl (by kernel_rfl) rfl ?_
      refine W.call Try.call40 rfl (Cod.wproof_ok g16 _ s.c1 s.s1 _ _ hP36.wr (by have := ho.1; simp [putsL, be64_length]; omega)) rfl ?_
      rintro v40 w40 ⟨rfl, hP40⟩
      have hX40 := hP40.old hP36.wr (Nat.le_refl _) hX36
      have hB40 := hP40.bk hB36 hn36
      refine W.nil ?_
      refine At.thenCode ?_
      refine C.seq ?_
      refine C.region ?_
      refine W.move rfl rfl ?_
      refine W.fieldB (off := 36) (size := 2) (t := 38) (Fld.of (by kernel_rfl)) rfl rfl rfl ?_
      have hc43 : Cells w40 ⟨g1, 36, none⟩ [u64V s.c2, u64V s.s2] := by
        have := Bk.cellsN (o := 36) (n := 2) hB40
        rwa [show ((subC s (.slice ab s.box.length cb)).drop 36).take 2 = [u64V s.c2, u64V s.s2] from by unfold subC; rw [List.drop_append, List.drop_of_length_le (by simp [ho.1]), List.length_map, ho.1]; rfl] at this
      refine W.loadA rfl hc43 Try.underlying38 rfl (by kernel_rfl) rfl ?_
      refine W.call Try.call40 rfl (Cod.wproof_ok g16 _ s.c2 s.s2 _ _ hP40.wr (by have := ho.1; simp [putsL, be64_length]; omega)) rfl ?_
      rintro v44 w44 ⟨rfl, hP44⟩
      have hX44 := hP44.old hP40.wr (Nat.le_refl _) hX40
      have hW44 : Wr w44 g16 w.heap.size (subB s) := by
        have := hP44.wr
        rw [hEB]
        simpa [putsL] using this
      obtain ⟨aR, cR, hBR, hNR⟩ := wr_end hW44 (Nat.le_refl _)
      refine W.nil ?_
      refine At.thenCode ?_
      refine C.seq ?_
      refine C.region ?_
      refine W.move rfl rfl ?_
      refine W.nilCheck rfl rfl ?_
      refine W.fieldB (off := 0) (size := 1) (t := 27) (Fld.of (by kernel_rfl)) rfl rfl rfl ?_
      refine W.loadB rfl Try.underlying27 rfl (by assumption) rfl rfl ?_
      refine W.assign rfl rfl ?_
      refine W.assign rfl rfl ?_
      refine W.nil ?_
      refine At.thenCode ?_
      refine C.ret ?_
      refine At.ret2 Try.results15 rfl rfl ?_
      exact ⟨aR, cR, by rw [hEE]; rfl, hNR, hX44⟩
end Go.Proofs.Ytpjdkobmcjgcjaa.Cod
