/- Chapter 23's example, and the walk of its law on proofs. -/
import Derived.Test.YthiijdbiikljpaaMbb
namespace Go.Proofs.Ythiijdbiikljpaa.Law23
open Go Go.RowKit Go.Proofs.Ythiijdbiikljpaa.KW Go.Proofs.Ythiijdbiikljpaa.Words Go.Proofs.Ythiijdbiikljpaa.Sha Go.Proofs.Ythiijdbiikljpaa.RSha Go.Proofs.Ythiijdbiikljpaa.Grp Go.Proofs.Ythiijdbiikljpaa.Cod Go.Proofs.Ythiijdbiikljpaa.Disk Go.Proofs.Ythiijdbiikljpaa.Mbx
set_option linter.unusedVariables false
set_option linter.unusedSimpArgs false
set_option maxRecDepth 100000
theorem batB_len {x : BatD} (ho : BatOk x) {m : Nat} (g : ∀ p ∈ x.lets, p.2.length ≤ m) : (batB x).length ≤ 40 + 8 * x.inner.length + x.lets.length * (32 + m) := by
  obtain ⟨_, _, _, hol⟩ := ho
  unfold batB
  split
  · have := encLets_le (l := x.lets) (m := m) (fun p hp => ⟨g p hp, hol p hp⟩)
    simp only [List.length_append, be64_length, putsL_length]; omega
  · exact Nat.zero_le _
theorem settle_room (B : Box) : (settleB B).D.bs.length ≤ B.D.bs.length := settle_len B
theorem keep_len (B : Box) (p : List UInt8) : (keepB B p).D.bs.length ≤ B.D.bs.length + 12 + p.length := by
  have h1 := settle_len B
  have h2 : (putD (settleB B).D p).bs.length ≤ (settleB B).D.bs.length + (12 + p.length) := by
    have h3 := app_len (settleB B).D (recB p)
    rw [recB_length] at h3
    unfold putD
    split
    · exact h3
    · exact h3
  unfold keepB
  split
  · unfold putB
    split
    · show (putD (settleB B).D p).bs.length ≤ _; omega
    · have := settle_len ⟨putD (settleB B).D p, (settleB B).s, some (settleB B).D.bs.length⟩
      have h4 : (settleB ⟨putD (settleB B).D p, (settleB B).s, some (settleB B).D.bs.length⟩).D.bs.length ≤ (putD (settleB B).D p).bs.length := this
      omega
  · omega
theorem accept_len (B : Box) (x : BatD) (ps : List Nat) : (acceptB B x ps).D.bs.length ≤ B.D.bs.length + 13 + (batB x).length ∧ (acceptB B x ps).s.l.length ≤ B.s.l.length + 1 := by
  have h1 := keep_len B (1 :: batB x)
  have h2 : (1 :: batB x).length = (batB x).length + 1 := rfl
  unfold acceptB
  split
  · exact ⟨by omega, by omega⟩
  · split
    · exact ⟨by show (keepB B (1 :: batB x)).D.bs.length ≤ _; omega, by simp [Mbx.takeS]⟩
    · rw [keepB_s]; exact ⟨by omega, by omega⟩
theorem RNums.nilM (A : Nat → Prop) (w : World) : RNums A w [.slice none 0 0] [] := ⟨none, 0, rfl, Sl.none _ _, fun ad e => (by cases e), fun x hx => by simp at hx⟩
theorem RSl.nilM {α : Type} (R : RdT α) (sz : Nat) (A : Nat → Prop) (w : World) : RSl sz R A w [.slice none 0 0] [] := ⟨none, 0, rfl, Els.nil R A w sz⟩
theorem batM_of {A : Nat → Prop} {w : World} {r c : Int} {ns : List Nat} {ls : List Let} {vi vl : Value} (hr : InI r) (hc : InI c) (hn : RNums A w [vi] ns) (hl : RSl 33 RLet A w [vl] ls) (hb : ∀ x ∈ ns, x < 18446744073709551616) (hk : ∀ p ∈ ls, p.1.length = 32) (l1 : ns.length ≤ 1000000) (l2 : ls.length ≤ 1000000) (l3 : ∀ p ∈ ls, p.2.length ≤ 1000000) : BatM A w ⟨r, c, ns, ls⟩ vi vl :=
  ⟨hn, hl, ⟨hr, hc, hb, hk⟩, by show ns.length ≤ _; omega, by show ls.length ≤ _; omega, fun p hp => by have := l3 p hp; omega⟩
theorem num_ok (n : Int) (w : World) : Ct Try.prog 14 #[.int .i64 n] w (fun v w' => v = .int .i64 n ∧ w = w') := by
  refine Ct.enter [(0, .int .i64 n)] Try.func14 rfl rfl rfl rfl ?_
  refine C.seq ?_
  refine C.region ?_
  refine W.assign rfl rfl ?_
  refine W.nil ?_
  refine At.thenCode ?_
  refine C.seq ?_
  refine C.region ?_
  refine W.move rfl rfl ?_
  refine W.assign rfl rfl ?_
  refine W.nil ?_
  refine At.thenCode ?_
  refine C.ret ?_
  refine At.ret1 Try.results14 rfl ?_
  exact ⟨rfl, rfl⟩
theorem Live.split {w0 w : World} {Y : Nat → Prop} {g dg : Nat} {rv : Int} {B : Box} (h : Live w0 w Y g dg rv B) : ∃ F : Nat → Prop, St w F g dg B.s B.owed ∧ LiveD w0 w (fun k => Y k ∨ F k) dg rv B.D := by
  obtain ⟨F, Fd, h1, h2, h3, h4, h5⟩ := h.out
  exact ⟨F, h1, ⟨Fd, h2, fun k hk => ⟨fun hy => hy.elim (h5 k hk).1 fun hf => h3 k hf hk, (h5 k hk).2⟩⟩, h.ext, fun k hk => hk.elim (h.y k) (h1.lt k)⟩
theorem ow_bk {w : World} {base e n c g : Nat} {xs : List UInt8} (h : Ow w base e (.slice (some ⟨g, 0, none⟩) n c) xs) : ∃ cells, Bk w g cells := by
  rcases h.2 with ⟨h1, _⟩ | ⟨g', cap, cur, hv, hb, hg, _⟩
  · cases h1
  · injection hv with h1
    injection h1 with h1
    injection h1 with h1
    subst h1
    exact ⟨cur.toList, _, by simpa using hg⟩
section
open Go.Proofs.Ythiijdbiikljpaa.KW
variable {P : Program} {N : Nat} {Q : Exit → Act → World → Prop} {l : Env} {w : World} {ops : Array Oper} {rest : List Oper} {d : Tmp} {ty : TypeId} {pos : String} {aft : Array Edge} {x y : Operand} {T T' : TypeId}
theorem W.neqPtr {ad : Addr} (hT : P.underlying T = some (.pointer (P.pointee T))) (hx : ev l x = some (.pointer (some ad))) (hy : ev l y = some (.pointer none)) (hN : Nat.blt d N = true)
    (next : W P N ops Q rest ((d, .bool true) :: l) w) : W P N ops Q (⟨some d, .binOp .neq T x y T', ty, pos, aft, none⟩ :: rest) l w :=
  W.op rfl rfl hN (fun f ha => by
    have he : (eqGuard .neq T x y (.pointer (some ad)) (.pointer none)) = pure () := by unfold eqGuard; split <;> rfl
    simp only [execOp, ha.ev hx, ha.ev hy, he, Sem.run_bind, Sem.run_pure, Result.andThen_ok, run_neq_pointer_nil w T (some ad) hT]
    rfl) next
end
def x0 : BatD := ⟨1, 2, [], [(zeros32, [97])]⟩
def B0 (room : Nat) : Box := ⟨⟨room, [], 0, []⟩, ⟨[], 0⟩, none⟩
theorem x0_ok : BatOk x0 := ⟨by decide, by decide, fun y hy => by simp [x0] at hy, fun p hp => by obtain rfl := List.mem_singleton.1 hp; rfl⟩
theorem x0_may : mayE ⟨[], 0⟩ x0 = 0 := by
  have : batE x0 = 0 := by decide
  unfold mayE
  rw [this]
  decide
theorem x0_len : (batB x0).length ≤ 100 := by
  have := batB_len x0_ok (m := 1) (fun p hp => by obtain rfl := List.mem_singleton.1 hp; decide)
  have h1 : x0.inner.length = 0 := rfl
  have h2 : x0.lets.length = 1 := rfl
  omega
theorem alive_ok (w : World) : Ct Try.prog 8 #[] w (fun v w' => v = .bool true ∧ Ext w w') := by
  refine Ct.enter [] Try.func8 rfl rfl rfl rfl ?_
  obtain ⟨hop0, hg0⟩ := Good.new 10000
  have hxl := x0_len
  obtain ⟨ha1, ha2, ha3, ha4, ha5⟩ := hg0.accept (x := x0) (pubs := []) x0_may x0_ok rfl (by omega) (by show 0 + 13 + _ ≤ 10000; omega)
  have hop1 := ha2.open
  obtain ⟨B1, hB1⟩ : ∃ B1, B1 = acceptB (B0 10000) x0 [] := ⟨_, rfl⟩
  rw [show (⟨⟨10000, [], 0, []⟩, ⟨[], 0⟩, none⟩ : Box) = B0 10000 from rfl] at ha1 ha2 ha3 ha4 ha5 hop0 hop1
  rw [← hB1] at ha2 ha3 ha4 ha5 hop1
  have hs1 : B1.s = ⟨[x0], 0⟩ := ha3
  have hl1 : B1.s.l.length = 1 := by rw [hs1]; rfl
  have hd1 : B1.D.bs.length ≤ 1000 := by rw [ha5]; show 0 + 13 + _ ≤ _; omega
  refine C.seq ?_
  refine C.region ?_
  refine W.assign rfl rfl ?_
  refine W.nil ?_
  refine At.thenCode ?_
  refine C.seq ?_
  refine C.region ?_
  refine W.call Try.call9 rfl (LiveD.New (w0 := w) (Y := fun _ => False) 10000 (Ext.refl _) (fun _ h => h.elim) (by decide)) rfl ?_
  rintro v5 w5 ⟨dg, rfl, hD5, hX5⟩
  refine W.assign rfl rfl ?_
  refine W.nil ?_
  refine At.thenCode ?_
  refine C.seq ?_
  refine C.region ?_
  refine W.move rfl rfl ?_
  refine W.call Try.call10 rfl (hD5.Open (Nat.zero_le _)) rfl ?_
  rintro v7 w7 ⟨g, rfl, hL7, hC7⟩
  have hL7 : Live w w7 (fun _ => False) g dg (max 0 10000) (B0 10000) := by have := hL7; rwa [show (10000 : Int).toNat = 10000 from rfl, hop0] at this
  refine W.assign rfl rfl ?_
  refine W.nil ?_
  refine At.thenCode ?_
  refine C.seq ?_
  refine C.seq ?_
  refine C.region ?_
  refine W.move rfl rfl ?_
  refine W.eqlPtr rfl rfl rfl rfl ?_
  refine W.nil ?_
  refine At.thenCode ?_
  refine C.condF rfl ?_
  refine C.skip ?_
  refine At.thenCode ?_
  refine C.seq ?_
  refine C.region ?_
  refine W.move rfl rfl ?_
  refine W.litB [97] E8 Try.underlying51 rfl rfl rfl rfl rfl ?_
  intro g11 w11 hg11 hX11 ho11 hb11
  obtain ⟨cs11, hB11⟩ := ow_bk ho11
  refine W.constB Try.underlying51 Try.underlying5 rfl hB11 hb11 rfl ?_
  intro w12 hC12 hb12
  have hX12 : Ext w7 w12 := hX11.news hC12 fun k hk => Or.inr (by omega)
  refine W.buildS (fs := _) [(0, 32), (32, 1)] (zeros32.map byteV ++ [Value.slice (some ⟨g11, 0, none⟩) 1 1]) LZ Try.underlying53 (by kernel_rfl) (by kernel_rfl) rfl (by rw [fill_cons (us := [Value.slice (some ⟨g11, 0, none⟩) 1 1]) (off := 32) rfl rfl (by simp [LZ, Z32])]; rw [show KW.splice LZ 32 [Value.slice (some ⟨g11, 0, none⟩) 1 1] = zeros32.map byteV ++ [Value.slice (some ⟨g11, 0, none⟩) 1 1] from LZ_box (k := zeros32) rfl _ _]; rfl) rfl ?_
  refine W.litS (zeros32.map byteV ++ [Value.slice (some ⟨g11, 0, none⟩) 1 1]) ELet Try.underlying31 rfl rfl (by decide) rfl ?_
  intro g14 w14 hg14 hX14 _ hs14
  have hX14w := hX12.ext hX14
  have hL14 := hL7.more hX14w
  have hs12 := hX12.size
  have hl11 : g11 < w11.heap.size := (World.ownsRow.lt ho11 g11 rfl).2
  have hl14 : g14 < w14.heap.size := hs14.blk rfl (by simp)
  have hlet : RLet (Fr w (More (fun _ => False) w7 w14)) w14 (zeros32.map byteV ++ [Value.slice (some ⟨g11, 0, none⟩) 1 1]) (zeros32, [97]) := ⟨_, rfl, ⟨_, _, rfl, hb12.ext hX14, fun ad e _ hk => by
    obtain rfl := Option.some.inj e
    have q1 := hX14.size
    have q2 := hC12.size
    have q3 := hX11.size
    exact hk.1 (.inr ⟨by rw [hg11]; exact Nat.le_refl _, Nat.lt_of_lt_of_le hl11 (Nat.le_trans q2 q1)⟩)⟩, rfl⟩
  have hels : Els (Fr w (More (fun _ => False) w7 w14)) w14 33 RLet (some ⟨g14, 0, none⟩) 1 [(zeros32, [97])] := Els.lit hs14 hlet (fun hk => hk.1 (.inr ⟨by rw [hg14]; exact hs12, hl14⟩))
  have hbm : BatM (Fr w (More (fun _ => False) w7 w14)) w14 x0 (.slice none 0 0) (.slice (some ⟨g14, 0, none⟩) 1 1) := batM_of (by constructor <;> decide) (by constructor <;> decide) (RNums.nilM _ _) ⟨_, _, rfl, hels⟩ (fun y hy => by simp at hy) (fun p hp => by obtain rfl := List.mem_singleton.1 hp; rfl) (by decide) (by decide) (fun p hp => by obtain rfl := List.mem_singleton.1 hp; decide)
  refine W.buildS (fs := _) [(0, 1), (1, 1), (2, 1), (3, 1)] (batC x0 (.slice none 0 0) (.slice (some ⟨g14, 0, none⟩) 1 1)) [(.int .i64 0), (.int .i64 0), (.slice none 0 0), (.slice none 0 0)] Try.underlying33 (by kernel_rfl) (by kernel_rfl) rfl rfl rfl ?_
  refine W.call Try.call11 rfl (hL14.Accept (by decide) (ps := []) hbm (Els.nil _ _ _ _) (Nat.zero_le _) (by omega) (Nat.zero_le _) (Nat.zero_le _)) rfl ?_
  rintro v16 w16 ⟨rfl, hL16, hC16⟩
  rw [ha1]
  rw [← hB1] at hL16
  refine W.assign rfl rfl ?_
  refine W.nil ?_
  refine At.thenCode ?_
  refine C.seq ?_
  refine C.region ?_
  refine W.move rfl rfl ?_
  obtain ⟨F, hSt16, hDs16⟩ := Live.split hL16
  refine W.call Try.call10 rfl (hDs16.Open (by omega)) rfl ?_
  rintro v18 w18 ⟨g2, rfl, hL18, hC18⟩
  rw [hop1] at hL18
  have hSt18 := hSt16.chg hC18 fun k hk hf => hf.1 (.inr hk)
  refine W.assign rfl rfl ?_
  refine W.nil ?_
  refine At.thenCode ?_
  refine C.seq ?_
  refine C.region ?_
  refine W.move rfl rfl ?_
  refine W.call Try.call14 rfl (Law23.num_ok _ _) rfl ?_
  rintro v20 w20 ⟨rfl, rfl⟩
  refine W.eqlI rfl rfl rfl ?_
  refine W.eqv (bT (rfl)) ?_
  refine W.move rfl rfl ?_
  refine W.wants rfl rfl rfl rfl ?_
  refine W.move rfl rfl ?_
  refine W.wants rfl rfl rfl rfl ?_
  refine W.call Try.call17 rfl (Mbx.Len_ok F g dg B1.s B1.owed _ hSt18) rfl ?_
  rintro v24 w24 ⟨rfl, rfl⟩
  refine W.wants rfl rfl rfl rfl ?_
  refine W.eqlI rfl rfl rfl ?_
  refine W.eqv (bT (by rw [hl1]; rfl)) ?_
  refine W.pickT rfl rfl rfl ?_
  refine W.move rfl rfl ?_
  refine W.wants rfl rfl rfl rfl ?_
  refine W.move rfl rfl ?_
  refine W.wants rfl rfl rfl rfl ?_
  refine W.neqPtr rfl rfl rfl rfl ?_
  refine W.eqv (v' := .bool true) (rfl) ?_
  refine W.pickT rfl rfl rfl ?_
  refine W.move rfl rfl ?_
  refine W.wants rfl rfl rfl rfl ?_
  refine W.move rfl rfl ?_
  refine W.wants rfl rfl rfl rfl ?_
  refine W.call Try.call17 rfl hL18.Len rfl ?_
  rintro v33 w33 ⟨rfl, rfl⟩
  refine W.wants rfl rfl rfl rfl ?_
  refine W.eqlI rfl rfl rfl ?_
  refine W.eqv (bT (by rw [hl1]; rfl)) ?_
  refine W.pickT rfl rfl rfl ?_
  refine W.move rfl rfl ?_
  refine W.wants rfl rfl rfl rfl ?_
  refine W.move rfl rfl ?_
  refine W.wants rfl rfl rfl rfl ?_
  refine W.buildAF (zeros32.map byteV) (List.replicate 32 (byteV 0)) X8 Try.underlying50 (by kernel_rfl) rfl rfl rfl ?_
  refine W.wants rfl rfl rfl rfl ?_
  refine W.call Try.call20 rfl (hL18.Fetch (name := zeros32) (a := 0) (c := 9) rfl (by constructor <;> decide) (by constructor <;> decide) (by omega)) rfl ?_
  rintro v39 w39 ⟨a39, c39, rfl, hE39, hX39⟩
  refine W.wants rfl rfl rfl rfl ?_
  refine W.lenS rfl Try.underlying31 rfl ?_
  refine W.wants rfl rfl rfl rfl ?_
  refine W.eqlI rfl rfl rfl ?_
  refine W.eqv (bT (by rw [hs1]; rfl)) ?_
  refine W.pickT rfl rfl rfl ?_
  refine W.assign rfl rfl ?_
  refine W.nil ?_
  refine At.thenCode ?_
  refine C.ret ?_
  refine At.ret1 Try.results8 rfl ?_
  exact ⟨rfl, hL18.ext.ext hX39⟩
end Go.Proofs.Ythiijdbiikljpaa.Law23
