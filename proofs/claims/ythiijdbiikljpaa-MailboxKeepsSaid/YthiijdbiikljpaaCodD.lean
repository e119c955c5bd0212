/- Chapter 11's data in memory: entries, letters, submissions, batches, notes. -/
import Derived.Test.YthiijdbiikljpaaCodW
import Derived.Test.YthiijdbiikljpaaKf
namespace Go.Proofs.Ythiijdbiikljpaa.Cod
open Go Go.RowKit Go.Proofs.Ythiijdbiikljpaa.KW Go.Proofs.Ythiijdbiikljpaa.Words Go.Proofs.Ythiijdbiikljpaa.Grp
set_option linter.unusedVariables false
set_option linter.unusedSimpArgs false
set_option maxRecDepth 100000
abbrev M64 : Nat := 18446744073709551616
def REnt : RdT Ent := fun A w cs p => ∃ v, cs = [u64V p.1, v] ∧ RByt A w [v] p.2 ∧ p.1 < M64
def RLet : RdT Let := fun A w cs p => ∃ v, cs = p.1.map byteV ++ [v] ∧ RByt A w [v] p.2 ∧ p.1.length = 32
def RNums : RdT (List Nat) := fun A w cs xs => ∃ a c, cs = [.slice a xs.length c] ∧ Us w a c xs ∧ (∀ ad, a = some ad → xs ≠ [] → ¬ A ad.block) ∧ ∀ x ∈ xs, x < M64
def RNote : RdT NoteD := fun A w cs n => cs = [u64V n.seq, u64V n.ack] ++ n.pay.map byteV ∧ NoteOk n
def RSub : RdT SubD := fun A w cs s => ∃ v, cs = s.user.map byteV ++ [u64V s.x, v, u64V s.c1, u64V s.s1, u64V s.c2, u64V s.s2] ∧ RByt A w [v] s.box ∧ SubOk s
def RBat : RdT BatD := fun A w cs x => ∃ vi vl, cs = [.int .i64 x.round, .int .i64 x.chain, vi, vl] ∧ RNums A w [vi] x.inner ∧ RSl 33 RLet A w [vl] x.lets ∧ BatOk x
theorem rEnt : RdOk REnt := by
  refine ⟨?_, ?_, ?_⟩
  · rintro A w w' cs x ⟨v, rfl, h, hx⟩ g; exact ⟨v, rfl, rByt.chg h g, hx⟩
  · rintro A B w cs x ⟨v, rfl, h, hx⟩ g; exact ⟨v, rfl, rByt.new h g, hx⟩
  · rintro A w cs x ⟨v, rfl, h, hx⟩ u hu
    simp only [List.mem_cons, List.not_mem_nil, or_false] at hu
    rcases hu with rfl | rfl
    · rfl
    · exact rByt.one h _ (by simp)
theorem rLet : RdOk RLet := by
  refine ⟨?_, ?_, ?_⟩
  · rintro A w w' cs x ⟨v, rfl, h, hx⟩ g; exact ⟨v, rfl, rByt.chg h g, hx⟩
  · rintro A B w cs x ⟨v, rfl, h, hx⟩ g; exact ⟨v, rfl, rByt.new h g, hx⟩
  · rintro A w cs x ⟨v, rfl, h, hx⟩ u hu
    rcases List.mem_append.1 hu with hu | hu
    · exact bytes_oneCell _ u hu
    · obtain rfl := List.mem_singleton.1 hu
      exact rByt.one h _ (by simp)
theorem rNums : RdOk RNums := by
  refine ⟨?_, ?_, ?_⟩
  · rintro A w w' cs xs ⟨a, c, rfl, hs, hn, hx⟩ g
    exact ⟨a, c, rfl, hs.chg g (fun ad e hc => hn ad e (by rintro rfl; exact hc rfl)), hn, hx⟩
  · rintro A B w cs xs ⟨a, c, rfl, hs, hn, hx⟩ h
    exact ⟨a, c, rfl, hs, fun ad e hx hB => hn ad e hx (h _ hB (hs.blk e (by simpa using hx))), hx⟩
  · rintro A w cs x ⟨a, c, rfl, _⟩ u hu
    obtain rfl := List.mem_singleton.1 hu
    rfl
theorem rNote : RdOk RNote := by
  refine ⟨fun h _ => h, fun h _ => h, ?_⟩
  rintro A w cs x ⟨rfl, _⟩ u hu
  rcases List.mem_append.1 hu with hu | hu
  · simp only [List.mem_cons, List.not_mem_nil, or_false] at hu
    rcases hu with rfl | rfl <;> rfl
  · exact bytes_oneCell _ u hu
theorem rSub : RdOk RSub := by
  refine ⟨?_, ?_, ?_⟩
  · rintro A w w' cs x ⟨v, rfl, h, hx⟩ g; exact ⟨v, rfl, rByt.chg h g, hx⟩
  · rintro A B w cs x ⟨v, rfl, h, hx⟩ g; exact ⟨v, rfl, rByt.new h g, hx⟩
  · rintro A w cs x ⟨v, rfl, h, hx⟩ u hu
    rcases List.mem_append.1 hu with hu | hu
    · exact bytes_oneCell _ u hu
    · simp only [List.mem_cons, List.not_mem_nil, or_false] at hu
      rcases hu with rfl | rfl | rfl | rfl | rfl | rfl
      · rfl
      · exact rByt.one h _ (by simp)
      all_goals rfl
theorem rBat : RdOk RBat := by
  refine ⟨?_, ?_, ?_⟩
  · rintro A w w' cs x ⟨vi, vl, rfl, h1, h2, hx⟩ g; exact ⟨vi, vl, rfl, rNums.chg h1 g, (rSl 33 rLet).chg h2 g, hx⟩
  · rintro A B w cs x ⟨vi, vl, rfl, h1, h2, hx⟩ g; exact ⟨vi, vl, rfl, rNums.new h1 g, (rSl 33 rLet).new h2 g, hx⟩
  · rintro A w cs x ⟨vi, vl, rfl, h1, h2, hx⟩ u hu
    simp only [List.mem_cons, List.not_mem_nil, or_false] at hu
    rcases hu with rfl | rfl | rfl | rfl
    · rfl
    · rfl
    · exact rNums.one h1 _ (by simp)
    · exact (rSl 33 rLet).one h2 _ (by simp)
theorem ELet : Elem Try.prog 53 33 56 (.agg (List.replicate 32 (byteV 0) ++ [Value.slice none 0 0]).toArray) := Elem.of (by kernel_rfl) rfl rfl
/-- What is told of bytes that a call made. -/
def NewB (w w' : World) (ao : Option Addr) (c : Nat) (xs : List UInt8) : Prop := Bs w' ao c xs ∧ ∀ ad, ao = some ad → xs ≠ [] → w.heap.size ≤ ad.block
theorem NewB.nil (w w' : World) : NewB w w' none 0 [] := ⟨Sl.none _ _, fun ad e => by cases e⟩
theorem Wr.fresh {w w' : World} {g base : Nat} {xs : List UInt8} (h : Wr w g base xs) (c : Ext w w') {k : Nat} (hk : w.heap.size ≤ k) : ¬ WS w' g k := fun hw => by
  have := (h.lt (h.ws_chg c (fun _ _ c => c) hw)).2
  omega
theorem WrP.old {w0 w w' : World} {g base : Nat} {xs ys : List UInt8} (h : WrP w g base ys w') (hw : Wr w g base xs) (hb : w0.heap.size ≤ base) (hX : Ext w0 w) : Ext w0 w' :=
  hX.news h.chg fun k hk => Or.inr (by have := (hw.lt hk).1; omega)
theorem WrP.bk {w w' : World} {g base q : Nat} {ys : List UInt8} {cs : List Value} (h : WrP w g base ys w') (hB : Bk w q cs) (hn : ¬ WS w g q) : Bk w' q cs := hB.chg h.chg hn
theorem WrP.chgB {w w' : World} {g base : Nat} {xs ys : List UInt8} (h : WrP w g base ys w') (hw : Wr w g base xs) : Chg (fun k => base ≤ k) w w' := h.chg.mono fun k hk => (hw.lt hk).1
theorem encEnts_append (a b : List Ent) : encEnts (a ++ b) = encEnts a ++ encEnts b := by
  induction a with
  | nil => rfl
  | cons p r ih => obtain ⟨x, c⟩ := p; simp only [List.cons_append, encEnts, ih, List.append_assoc]
theorem encEnts_take {l : List Ent} {i : Nat} (h : i < l.length) : encEnts (l.take (i + 1)) = encEnts (l.take i) ++ (be64 (l[i]'h).1 ++ (l[i]'h).2) := by
  rw [List.take_succ_eq_append_getElem h, encEnts_append]
  simp [encEnts]
theorem encEnts_le {l : List Ent} {m : Nat} (h : ∀ p ∈ l, p.2.length ≤ m) : (encEnts l).length ≤ l.length * (8 + m) := by
  induction l with
  | nil => simp [encEnts]
  | cons p r ih =>
    obtain ⟨x, b⟩ := p
    have h1 := ih fun q hq => h q (by simp [hq])
    have h2 := h (x, b) (by simp)
    simp only [encEnts, List.length_append, be64_length, List.length_cons, Nat.succ_mul]
    simp only at h2
    omega
theorem encLets_append (a b : List Let) : encLets (a ++ b) = encLets a ++ encLets b := by
  induction a with
  | nil => rfl
  | cons p r ih => obtain ⟨x, c⟩ := p; simp only [List.cons_append, encLets, ih, List.append_assoc]
theorem encLets_take {l : List Let} {i : Nat} (h : i < l.length) : encLets (l.take (i + 1)) = encLets (l.take i) ++ ((l[i]'h).1 ++ (l[i]'h).2) := by
  rw [List.take_succ_eq_append_getElem h, encLets_append]
  simp [encLets]
theorem encLets_le {l : List Let} {m : Nat} (h : ∀ p ∈ l, p.2.length ≤ m ∧ p.1.length = 32) : (encLets l).length ≤ l.length * (32 + m) := by
  induction l with
  | nil => simp [encLets]
  | cons p r ih =>
    obtain ⟨x, b⟩ := p
    have h1 := ih fun q hq => h q (by simp [hq])
    have h2 := h (x, b) (by simp)
    simp only [encLets, List.length_append, List.length_cons, Nat.succ_mul]
    simp only at h2
    omega
end Go.Proofs.Ythiijdbiikljpaa.Cod
