/- Chapter 11 as plain functions on lists of bytes: what is written, what is read, and that both fit. -/
import Derived.Test.YthiijdbiikljpaaRgt
namespace Go.Proofs.Ythiijdbiikljpaa.Cod
open Go Go.RowKit Go.Proofs.Ythiijdbiikljpaa.KW Go.Proofs.Ythiijdbiikljpaa.Words Go.Proofs.Ythiijdbiikljpaa.Grp
set_option linter.unusedVariables false
set_option linter.unusedSimpArgs false

/-! ### numbers -/
theorem be64_beNat {l : List UInt8} (h : l.length = 8) : be64 (beNat l) = l := by
  obtain ⟨a, b, c, d, e, f, g, i, rfl⟩ : ∃ a b c d e f g i, l = [a, b, c, d, e, f, g, i] := by
    match l, h with
    | [a, b, c, d, e, f, g, i], _ => exact ⟨a, b, c, d, e, f, g, i, rfl⟩
  have ha := UInt8.toNat_lt a
  have hb := UInt8.toNat_lt b
  have hc := UInt8.toNat_lt c
  have hd := UInt8.toNat_lt d
  have he := UInt8.toNat_lt e
  have hf := UInt8.toNat_lt f
  have hg := UInt8.toNat_lt g
  have hi := UInt8.toNat_lt i
  simp only [beNat, be64, be32, List.foldl_cons, List.foldl_nil, List.cons_append, List.nil_append, List.cons.injEq, and_true]
  refine ⟨?_, ?_, ?_, ?_, ?_, ?_, ?_, ?_⟩ <;> (apply UInt8.toNat_inj.1; rw [ofNat_toNat]; omega)
theorem beNat8_lt {l : List UInt8} (h : l.length = 8) : beNat l < 18446744073709551616 := by
  have := beNat_lt l 8 h
  have e : (256 : Nat) ^ 8 = 18446744073709551616 := by decide
  omega

/-! ### reading: why it fails (0: it does not), and what is left -/
abbrev St := Nat × List UInt8
def failS (e : Nat) (s : St) : St := if s.1 = 0 then (e, []) else s
def numS (s : St) : Nat × St := if s.1 = 0 then (if s.2.length < 8 then (0, (4, [])) else (beNat (s.2.take 8), (0, s.2.drop 8))) else (0, s)
def takeS (n : Nat) (s : St) : List UInt8 × St := if s.1 = 0 then (if s.2.length < n then ([], (4, [])) else (s.2.take n, (0, s.2.drop n))) else ([], s)
def intS (m : Nat) (s : St) : Nat × St := if m < (numS s).1 then (0, failS 2 (numS s).2) else numS s
def elemS (s : St) : Nat × St := ((numS s).1, if Rt (numS s).1 then (numS s).2 else failS 2 (numS s).2)
def zeros32 : List UInt8 := List.replicate 32 0
def keyS (s : St) : List UInt8 × St := ((takeS 32 s).1 ++ List.replicate (32 - (takeS 32 s).1.length) 0, (takeS 32 s).2)
def sizeS (n : Nat) (s : St) : Nat × St := ((intS 1048576 s).1, if n = 0 ∧ 0 < (intS 1048576 s).1 then failS 2 (intS 1048576 s).2 else (intS 1048576 s).2)
def overS (s : St) : Nat := if s.1 = 0 then (if s.2 = [] then 0 else 2) else s.1
def Ok (s : St) : Prop := s.1 ≠ 0 → s.2 = []

theorem numS_bad {s : St} (h : s.1 ≠ 0) : numS s = (0, s) := if_neg h
theorem takeS_bad {n : Nat} {s : St} (h : s.1 ≠ 0) : takeS n s = ([], s) := if_neg h
theorem failS_bad {e : Nat} {s : St} (h : s.1 ≠ 0) : failS e s = s := if_neg h
theorem failS_ne {e : Nat} {s : St} (h : e ≠ 0) : (failS e s).1 ≠ 0 := by
  unfold failS; split
  · exact h
  · assumption
theorem numS_lt (s : St) : (numS s).1 < 18446744073709551616 := by
  unfold numS; split
  · split
    · show (0 : Nat) < _; decide
    · exact beNat8_lt (by rw [List.length_take]; omega)
  · show (0 : Nat) < _; decide
theorem elemS_lt (s : St) : (elemS s).1 < 18446744073709551616 := by unfold elemS; exact numS_lt s
theorem intS_le (m : Nat) (s : St) : (intS m s).1 ≤ m := by
  unfold intS; split
  · exact Nat.zero_le _
  · omega
theorem takeS_len (n : Nat) (s : St) : (takeS n s).1.length ≤ n := by
  unfold takeS; split
  · split
    · exact Nat.zero_le _
    · rw [List.length_take]; omega
  · exact Nat.zero_le _
theorem keyS_len (s : St) : (keyS s).1.length = 32 := by
  have := takeS_len 32 s
  unfold keyS
  rw [List.length_append, List.length_replicate]; omega
theorem takeS_ok {n : Nat} {s : St} (h : (takeS n s).2.1 = 0) : s.1 = 0 ∧ n ≤ s.2.length ∧ takeS n s = (s.2.take n, (0, s.2.drop n)) := by
  unfold takeS at h ⊢
  split at h
  · split at h
    · exact absurd h (by decide)
    · rename_i h1 h2; rw [if_pos h1, if_neg h2]; exact ⟨h1, by omega, rfl⟩
  · rename_i h1; exact absurd h h1
theorem numS_ok {s : St} (h : (numS s).2.1 = 0) : s.1 = 0 ∧ 8 ≤ s.2.length ∧ numS s = (beNat (s.2.take 8), (0, s.2.drop 8)) := by
  unfold numS at h ⊢
  split at h
  · split at h
    · exact absurd h (by decide)
    · rename_i h1 h2; rw [if_pos h1, if_neg h2]; exact ⟨h1, by omega, rfl⟩
  · rename_i h1; exact absurd h h1
theorem failS_ok {e : Nat} {s : St} (h : (failS e s).1 = 0) (he : e ≠ 0) : False := failS_ne he h
theorem intS_ok {m : Nat} {s : St} (h : (intS m s).2.1 = 0) : (numS s).2.1 = 0 ∧ intS m s = numS s ∧ (numS s).1 ≤ m := by
  unfold intS at h ⊢
  split at h
  · exact (failS_ok h (by decide)).elim
  · rename_i h1; rw [if_neg h1]; exact ⟨h, rfl, by omega⟩
theorem elemS_ok {s : St} (h : (elemS s).2.1 = 0) : (numS s).2.1 = 0 ∧ elemS s = numS s ∧ Rt (numS s).1 := by
  unfold elemS at h ⊢
  by_cases hr : Rt (numS s).1
  · rw [if_pos hr] at h ⊢; exact ⟨h, rfl, hr⟩
  · rw [if_neg hr] at h; exact (failS_ok h (by decide)).elim
theorem sizeS_ok {n : Nat} {s : St} (h : (sizeS n s).2.1 = 0) : (intS 1048576 s).2.1 = 0 ∧ sizeS n s = intS 1048576 s ∧ (n = 0 → (intS 1048576 s).1 = 0) := by
  unfold sizeS at h ⊢
  by_cases hr : n = 0 ∧ 0 < (intS 1048576 s).1
  · rw [if_pos hr] at h; exact (failS_ok h (by decide)).elim
  · rw [if_neg hr] at h ⊢; exact ⟨h, rfl, fun e => by omega⟩
theorem keyS_ok {s : St} (h : (keyS s).2.1 = 0) : s.1 = 0 ∧ 32 ≤ s.2.length ∧ keyS s = (s.2.take 32, (0, s.2.drop 32)) := by
  obtain ⟨h1, h2, h3⟩ := takeS_ok (n := 32) (s := s) h
  refine ⟨h1, h2, ?_⟩
  unfold keyS
  rw [h3]
  show ((s.2.take 32) ++ List.replicate (32 - (s.2.take 32).length) 0, _) = _
  have e : (s.2.take 32).length = 32 := by rw [List.length_take]; omega
  rw [e, Nat.sub_self, List.replicate_zero, List.append_nil]
theorem bad_of {α : Type} {p : α × St} {s : St} (hb : s.1 ≠ 0) (h : p.2 = s) : p.2.1 ≠ 0 := by rw [h]; exact hb

/-! what was written is read -/
theorem numS_be64 (x : Nat) (h : x < 18446744073709551616) (r : List UInt8) : numS (0, be64 x ++ r) = (x, (0, r)) := by
  have e : (be64 x ++ r).take 8 = be64 x := List.take_left' (be64_length x)
  have d : (be64 x ++ r).drop 8 = r := List.drop_left' (be64_length x)
  unfold numS
  rw [if_pos rfl, if_neg (by simp only [List.length_append, be64_length]; omega)]
  simp only [e, d, beNat_be64 x h]
theorem takeS_app (b r : List UInt8) : takeS b.length (0, b ++ r) = (b, (0, r)) := by
  unfold takeS
  rw [if_pos rfl, if_neg (by simp)]
  simp only [List.take_left, List.drop_left]
theorem takeS_app' {n : Nat} {b : List UInt8} (h : b.length = n) (r : List UInt8) : takeS n (0, b ++ r) = (b, (0, r)) := by subst h; exact takeS_app b r
theorem keyS_app {k : List UInt8} (h : k.length = 32) (r : List UInt8) : keyS (0, k ++ r) = (k, (0, r)) := by
  unfold keyS
  rw [takeS_app' h]
  simp [h]
theorem intS_be64 {m x : Nat} (h : x < 18446744073709551616) (hm : x ≤ m) (r : List UInt8) : intS m (0, be64 x ++ r) = (x, (0, r)) := by
  unfold intS
  rw [numS_be64 x h, if_neg (by simpa using hm)]
theorem elemS_be64 {x : Nat} (hr : Rt x) (r : List UInt8) : elemS (0, be64 x ++ r) = (x, (0, r)) := by
  unfold elemS
  rw [numS_be64 x (by have := hr.2; omega), if_pos hr]
theorem sizeS_be64 {n x : Nat} (hm : x ≤ 1048576) (hn : n = 0 → x = 0) (r : List UInt8) : sizeS n (0, be64 x ++ r) = (x, (0, r)) := by
  unfold sizeS
  rw [intS_be64 (by omega) hm, if_neg (by rintro ⟨h1, h2⟩; have := hn h1; simp only at h2; omega)]
/-! what is read was written -/
theorem numS_back {s : St} (h : (numS s).2.1 = 0) : s = (0, be64 (numS s).1 ++ (numS s).2.2) := by
  obtain ⟨h1, h2, h3⟩ := numS_ok h
  rw [h3]
  show s = (0, be64 (beNat (s.2.take 8)) ++ s.2.drop 8)
  rw [be64_beNat (by rw [List.length_take]; omega), List.take_append_drop]
  exact Prod.ext h1 rfl
theorem takeS_back {n : Nat} {s : St} (h : (takeS n s).2.1 = 0) : s = (0, (takeS n s).1 ++ (takeS n s).2.2) ∧ (takeS n s).1.length = n := by
  obtain ⟨h1, h2, h3⟩ := takeS_ok h
  rw [h3]
  refine ⟨?_, by show (s.2.take n).length = n; rw [List.length_take]; omega⟩
  show s = (0, s.2.take n ++ s.2.drop n)
  rw [List.take_append_drop]
  exact Prod.ext h1 rfl
theorem keyS_back {s : St} (h : (keyS s).2.1 = 0) : s = (0, (keyS s).1 ++ (keyS s).2.2) := by
  obtain ⟨h1, h2, h3⟩ := keyS_ok h
  rw [h3]
  show s = (0, s.2.take 32 ++ s.2.drop 32)
  rw [List.take_append_drop]
  exact Prod.ext h1 rfl

/-! ### entries -/
abbrev Ent := Nat × List UInt8
def encEnts : List Ent → List UInt8
  | [] => []
  | (x, b) :: r => be64 x ++ b ++ encEnts r
def sizeE : List Ent → Nat
  | [] => 0
  | (_, b) :: _ => b.length
def longE (l : List Ent) : Prop := ∃ p ∈ l, 1048576 < p.2.length
def wrongE (l : List Ent) : Prop := ∃ p ∈ l, p.2.length ≠ sizeE l ∨ ¬ Rt p.1
instance (l : List Ent) : Decidable (longE l) := by unfold longE; infer_instance
instance (l : List Ent) : Decidable (wrongE l) := by unfold wrongE; infer_instance
def entsE (l : List Ent) : Nat := if 1000 < l.length ∨ longE l then 3 else if wrongE l then 1 else 0
def entsB (l : List Ent) : List UInt8 := if entsE l = 0 then be64 l.length ++ be64 (sizeE l) ++ encEnts l else []
def rdEnts (k : Nat) : Nat → St → List Ent × St
  | 0, s => ([], s)
  | n + 1, s => if s.1 = 0 then (((elemS s).1, (takeS k (elemS s).2).1) :: (rdEnts k n (takeS k (elemS s).2).2).1, (rdEnts k n (takeS k (elemS s).2).2).2) else ([], s)
def entsS (b : List UInt8) : List Ent × St := rdEnts (sizeS (intS 1000 (0, b)).1 (intS 1000 (0, b)).2).1 (intS 1000 (0, b)).1 (sizeS (intS 1000 (0, b)).1 (intS 1000 (0, b)).2).2
def entsRE (b : List UInt8) : Nat := overS (entsS b).2
def entsR (b : List UInt8) : List Ent := if entsRE b = 0 then (entsS b).1 else []
theorem rdEnts_bad {k n : Nat} {s : St} (h : s.1 ≠ 0) : rdEnts k n s = ([], s) := by
  cases n with
  | zero => rfl
  | succ n => unfold rdEnts; rw [if_neg h]
theorem rdEnts_app {k : Nat} : ∀ (l : List Ent) (r : List UInt8), (∀ p ∈ l, p.2.length = k ∧ Rt p.1) → rdEnts k l.length (0, encEnts l ++ r) = (l, (0, r)) := by
  intro l
  induction l with
  | nil => intro r _; rfl
  | cons p l ih =>
    intro r h
    obtain ⟨x, b⟩ := p
    have h0 := h (x, b) (by simp)
    have h1 := ih r fun q hq => h q (by simp [hq])
    show rdEnts k (l.length + 1) (0, be64 x ++ b ++ encEnts l ++ r) = _
    unfold rdEnts
    rw [if_pos rfl, List.append_assoc, List.append_assoc, elemS_be64 h0.2]
    simp only [takeS_app' h0.1, h1]
theorem rdEnts_back {k : Nat} : ∀ (n : Nat) (s : St), (rdEnts k n s).2.1 = 0 → s = (0, encEnts (rdEnts k n s).1 ++ (rdEnts k n s).2.2) ∧ (rdEnts k n s).1.length = n ∧ ∀ p ∈ (rdEnts k n s).1, p.2.length = k ∧ Rt p.1 := by
  intro n
  induction n with
  | zero => intro s h; exact ⟨Prod.ext h rfl, rfl, fun p hp => by cases hp⟩
  | succ n ih =>
    intro s h
    unfold rdEnts at h ⊢
    by_cases hs : s.1 = 0
    · rw [if_pos hs] at h ⊢
      have h : (rdEnts k n (takeS k (elemS s).2).2).2.1 = 0 := h
      obtain ⟨g1, g2, g3⟩ := ih _ h
      have h4 : (takeS k (elemS s).2).2.1 = 0 := by rw [g1]
      obtain ⟨g5, g6⟩ := takeS_back h4
      have h7 : (elemS s).2.1 = 0 := by rw [g5]
      obtain ⟨g8, g9, g10⟩ := elemS_ok h7
      have g11 := numS_back g8
      refine ⟨?_, by simp [g2], ?_⟩
      · rw [← g9] at g11
        show s = (0, be64 (elemS s).1 ++ (takeS k (elemS s).2).1 ++ encEnts (rdEnts k n (takeS k (elemS s).2).2).1 ++ (rdEnts k n (takeS k (elemS s).2).2).2.2)
        have e1 : (takeS k (elemS s).2).2.2 = encEnts (rdEnts k n (takeS k (elemS s).2).2).1 ++ (rdEnts k n (takeS k (elemS s).2).2).2.2 := congrArg Prod.snd g1
        have e2 : (elemS s).2.2 = (takeS k (elemS s).2).1 ++ (takeS k (elemS s).2).2.2 := congrArg Prod.snd g5
        rw [List.append_assoc, List.append_assoc, ← e1, ← e2]
        exact g11
      · intro p hp
        rcases List.mem_cons.1 hp with rfl | hp
        · exact ⟨g6, by show Rt (elemS s).1; rw [g9]; exact g10⟩
        · exact g3 p hp
    · rw [if_neg hs] at h; exact absurd h hs
theorem overS_ok {s : St} (h : overS s = 0) : s = (0, []) := by
  unfold overS at h
  split at h
  · rename_i h1
    split at h
    · rename_i h2; exact Prod.ext h1 h2
    · exact absurd h (by decide)
  · rename_i h1; exact absurd h h1
theorem sizeE_all {k : Nat} {l : List Ent} (h : ∀ p ∈ l, p.2.length = k) (hk : l = [] → k = 0) : sizeE l = k := by
  cases l with
  | nil => exact (hk rfl).symm
  | cons p r => exact h p (by simp)
theorem ents_read (l : List Ent) (h : entsE l = 0) : entsRE (entsB l) = 0 ∧ entsR (entsB l) = l := by
  have hB : entsB l = be64 l.length ++ be64 (sizeE l) ++ encEnts l := if_pos h
  unfold entsE at h
  by_cases h1 : 1000 < l.length ∨ longE l
  · rw [if_pos h1] at h; exact absurd h (by decide)
  rw [if_neg h1] at h
  by_cases h2 : wrongE l
  · rw [if_pos h2] at h; exact absurd h (by decide)
  have hl : l.length ≤ 1000 := by have := fun c => h1 (Or.inl c); omega
  have hall : ∀ p ∈ l, p.2.length = sizeE l ∧ Rt p.1 := fun p hp => by
    by_cases e : p.2.length = sizeE l
    · by_cases r : Rt p.1
      · exact ⟨e, r⟩
      · exact absurd ⟨p, hp, Or.inr r⟩ h2
    · exact absurd ⟨p, hp, Or.inl e⟩ h2
  have hsz : sizeE l ≤ 1048576 := by
    cases l with
    | nil => exact Nat.zero_le _
    | cons p r => have : ¬ 1048576 < p.2.length := fun c => h1 (Or.inr ⟨p, by simp, c⟩)
                  have e : sizeE (p :: r) = p.2.length := by obtain ⟨x, b⟩ := p; rfl
                  omega
  have hS : entsS (entsB l) = (l, (0, [])) := by
    unfold entsS
    rw [hB, List.append_assoc, intS_be64 (by omega) hl]
    simp only
    rw [sizeS_be64 hsz (by intro e; have : l = [] := List.eq_nil_of_length_eq_zero e; subst this; rfl)]
    simp only
    have := rdEnts_app (k := sizeE l) l [] hall
    rwa [List.append_nil] at this
  have hE : entsRE (entsB l) = 0 := by unfold entsRE; rw [hS]; rfl
  exact ⟨hE, by unfold entsR; rw [if_pos hE, hS]⟩
theorem ents_again (b : List UInt8) (h : entsRE b = 0) : entsE (entsR b) = 0 ∧ entsB (entsR b) = b := by
  have hR : entsR b = (entsS b).1 := if_pos h
  have hS := overS_ok h
  unfold entsS at hS
  obtain ⟨g1, g2, g3⟩ := rdEnts_back _ _ (by rw [hS])
  have h1 : (sizeS (intS 1000 (0, b)).1 (intS 1000 (0, b)).2).2.1 = 0 := by rw [g1]
  obtain ⟨k1, k2, k3⟩ := sizeS_ok h1
  obtain ⟨k4, k5, k6⟩ := intS_ok k1
  have k7 := numS_back k4
  have h2 : (intS 1000 (0, b)).2.1 = 0 := by rw [k7]
  obtain ⟨m1, m2, m3⟩ := intS_ok h2
  have m4 := numS_back m1
  have hN := numS_lt (intS 1000 (0, b)).2
  obtain ⟨k, hk⟩ : ∃ k, k = (sizeS (intS 1000 (0, b)).1 (intS 1000 (0, b)).2).1 := ⟨_, rfl⟩
  obtain ⟨n, hn⟩ : ∃ n, n = (intS 1000 (0, b)).1 := ⟨_, rfl⟩
  have hkk : k ≤ 1048576 := by rw [hk, k2, k5]; exact k6
  have hnn : n ≤ 1000 := by rw [hn, m2]; exact m3
  have hk0 : n = 0 → k = 0 := fun e => by rw [hk, k2]; exact k3 (hn ▸ e)
  have hE : (entsS b).1 = (rdEnts (sizeS (intS 1000 (0, b)).1 (intS 1000 (0, b)).2).1 (intS 1000 (0, b)).1 (sizeS (intS 1000 (0, b)).1 (intS 1000 (0, b)).2).2).1 := rfl
  rw [← hE, ← hk] at g3
  rw [← hE, ← hn] at g2
  have hz : sizeE (entsS b).1 = k := sizeE_all (fun p hp => (g3 p hp).1) (fun e => hk0 (by rw [← g2, e]; rfl))
  have hOK : entsE (entsS b).1 = 0 := by
    unfold entsE
    rw [if_neg, if_neg]
    · rintro ⟨p, hp, hq⟩
      rw [hz] at hq
      have := g3 p hp
      rcases hq with hq | hq
      · exact hq this.1
      · exact hq this.2
    · rintro (hq | ⟨p, hp, hq⟩)
      · rw [g2] at hq; omega
      · have := (g3 p hp).1; omega
  rw [hR]
  refine ⟨hOK, ?_⟩
  unfold entsB
  rw [if_pos hOK, hz, g2]
  have e1 : b = be64 n ++ (intS 1000 (0, b)).2.2 := by rw [hn, m2]; exact congrArg Prod.snd m4
  have e2 : (intS 1000 (0, b)).2.2 = be64 k ++ (sizeS (intS 1000 (0, b)).1 (intS 1000 (0, b)).2).2.2 := by rw [hk, k2, k5]; exact congrArg Prod.snd k7
  have e3 : (sizeS (intS 1000 (0, b)).1 (intS 1000 (0, b)).2).2.2 = encEnts (entsS b).1 := by
    have := congrArg Prod.snd g1
    rw [hS] at this
    simp only [List.append_nil] at this
    exact this
  rw [List.append_assoc]
  conv => rhs; rw [e1, e2, e3]

/-! ### notes -/
structure NoteD where
  seq : Nat
  ack : Nat
  pay : List UInt8
def NoteOk (n : NoteD) : Prop := n.seq < 18446744073709551616 ∧ n.ack < 18446744073709551616 ∧ n.pay.length = 32
def noteB (n : NoteD) : List UInt8 := be64 n.seq ++ be64 n.ack ++ n.pay
def zeroNote : NoteD := ⟨0, 0, zeros32⟩
def noteS (b : List UInt8) : NoteD × St := (⟨(numS (0, b)).1, (numS (numS (0, b)).2).1, (keyS (numS (numS (0, b)).2).2).1⟩, (keyS (numS (numS (0, b)).2).2).2)
def noteRE (b : List UInt8) : Nat := overS (noteS b).2
def noteR (b : List UInt8) : NoteD := if noteRE b = 0 then (noteS b).1 else zeroNote
theorem noteB_length {n : NoteD} (h : NoteOk n) : (noteB n).length = 48 := by
  unfold noteB; rw [List.length_append, List.length_append, be64_length, be64_length, h.2.2]
theorem note_read (n : NoteD) (h : NoteOk n) : noteRE (noteB n) = 0 ∧ noteR (noteB n) = n := by
  have hS : noteS (noteB n) = (n, (0, [])) := by
    unfold noteS noteB
    rw [List.append_assoc, numS_be64 _ h.1]
    simp only
    rw [numS_be64 _ h.2.1]
    simp only
    have := keyS_app h.2.2 []
    rw [List.append_nil] at this
    rw [this]
  have hE : noteRE (noteB n) = 0 := by unfold noteRE; rw [hS]; rfl
  exact ⟨hE, by unfold noteR; rw [if_pos hE, hS]⟩
theorem note_again (b : List UInt8) (h : noteRE b = 0) : noteB (noteR b) = b := by
  have hR : noteR b = (noteS b).1 := if_pos h
  have hS : (noteS b).2 = (0, []) := overS_ok h
  have h3 : (keyS (numS (numS (0, b)).2).2).2 = (0, []) := hS
  have g3 := keyS_back (s := (numS (numS (0, b)).2).2) (by rw [h3])
  have g2 := numS_back (s := (numS (0, b)).2) (by rw [g3])
  have g1 := numS_back (s := (0, b)) (by rw [g2])
  rw [hR]
  show be64 (numS (0, b)).1 ++ be64 (numS (numS (0, b)).2).1 ++ (keyS (numS (numS (0, b)).2).2).1 = b
  have e1 : b = be64 (numS (0, b)).1 ++ (numS (0, b)).2.2 := congrArg Prod.snd g1
  have e2 := congrArg Prod.snd g2
  have e3 := congrArg Prod.snd g3
  rw [h3] at e3
  simp only [List.append_nil] at e3
  simp only at e2
  rw [e3] at e2
  rw [List.append_assoc, ← e2]
  exact e1.symm
theorem noteS_ok (b : List UInt8) : NoteOk (noteS b).1 := ⟨numS_lt _, numS_lt _, keyS_len _⟩
theorem noteR_ok (b : List UInt8) : NoteOk (noteR b) := by
  unfold noteR; split
  · exact noteS_ok b
  · exact ⟨by decide, by decide, by decide⟩

/-! ### submissions -/
structure SubD where
  user : List UInt8
  x : Nat
  box : List UInt8
  c1 : Nat
  s1 : Nat
  c2 : Nat
  s2 : Nat
def SubOk (s : SubD) : Prop := s.user.length = 32 ∧ s.x < 18446744073709551616 ∧ s.c1 < 18446744073709551616 ∧ s.s1 < 18446744073709551616 ∧ s.c2 < 18446744073709551616 ∧ s.s2 < 18446744073709551616
def zeroSub : SubD := ⟨zeros32, 0, [], 0, 0, 0, 0⟩
def subE (s : SubD) : Nat := if 1048576 < s.box.length then 3 else if Rt s.x then 0 else 1
def subB (s : SubD) : List UInt8 := if subE s = 0 then s.user ++ (be64 s.x ++ (be64 s.box.length ++ (s.box ++ (be64 s.c1 ++ (be64 s.s1 ++ (be64 s.c2 ++ be64 s.s2)))))) else []
def sub1 (b : List UInt8) := keyS (0, b)
def sub2 (b : List UInt8) := elemS (sub1 b).2
def sub3 (b : List UInt8) := intS 1048576 (sub2 b).2
def sub4 (b : List UInt8) := takeS (sub3 b).1 (sub3 b).2
def sub5 (b : List UInt8) := numS (sub4 b).2
def sub6 (b : List UInt8) := numS (sub5 b).2
def sub7 (b : List UInt8) := numS (sub6 b).2
def sub8 (b : List UInt8) := numS (sub7 b).2
theorem sub1_eq (b : List UInt8) : sub1 b = keyS (0, b) := rfl
theorem sub2_eq (b : List UInt8) : sub2 b = elemS (sub1 b).2 := rfl
theorem sub3_eq (b : List UInt8) : sub3 b = intS 1048576 (sub2 b).2 := rfl
theorem sub4_eq (b : List UInt8) : sub4 b = takeS (sub3 b).1 (sub3 b).2 := rfl
theorem sub5_eq (b : List UInt8) : sub5 b = numS (sub4 b).2 := rfl
theorem sub6_eq (b : List UInt8) : sub6 b = numS (sub5 b).2 := rfl
theorem sub7_eq (b : List UInt8) : sub7 b = numS (sub6 b).2 := rfl
theorem sub8_eq (b : List UInt8) : sub8 b = numS (sub7 b).2 := rfl
def subS (b : List UInt8) : SubD := ⟨(sub1 b).1, (sub2 b).1, (sub4 b).1, (sub5 b).1, (sub6 b).1, (sub7 b).1, (sub8 b).1⟩
def subRE (b : List UInt8) : Nat := overS (sub8 b).2
def subR (b : List UInt8) : SubD := if subRE b = 0 then subS b else zeroSub
theorem subS_ok (b : List UInt8) : SubOk (subS b) := by
  have q1 := sub1_eq b
  have q2 := sub2_eq b
  have q3 := sub3_eq b
  have q4 := sub4_eq b
  have q5 := sub5_eq b
  have q6 := sub6_eq b
  have q7 := sub7_eq b
  have q8 := sub8_eq b
  unfold subS
  generalize sub1 b = p1 at *
  generalize sub2 b = p2 at *
  generalize sub3 b = p3 at *
  generalize sub4 b = p4 at *
  generalize sub5 b = p5 at *
  generalize sub6 b = p6 at *
  generalize sub7 b = p7 at *
  generalize sub8 b = p8 at *
  have h1 : p1.1.length = 32 := by rw [q1]; exact keyS_len _
  have h2 : p2.1 < 18446744073709551616 := by rw [q2]; exact elemS_lt _
  have h5 : p5.1 < 18446744073709551616 := by rw [q5]; exact numS_lt _
  have h6 : p6.1 < 18446744073709551616 := by rw [q6]; exact numS_lt _
  have h7 : p7.1 < 18446744073709551616 := by rw [q7]; exact numS_lt _
  have h8 : p8.1 < 18446744073709551616 := by rw [q8]; exact numS_lt _
  exact ⟨h1, h2, h5, h6, h7, h8⟩
theorem subR_ok (b : List UInt8) : SubOk (subR b) := by
  unfold subR; split
  · exact subS_ok b
  · exact ⟨by decide, by decide, by decide, by decide, by decide, by decide⟩
theorem sub_read (s : SubD) (h : subE s = 0) (ho : SubOk s) : subRE (subB s) = 0 ∧ subR (subB s) = s := by
  have hB : subB s = _ := if_pos h
  unfold subE at h
  by_cases h1 : 1048576 < s.box.length
  · rw [if_pos h1] at h; exact absurd h (by decide)
  rw [if_neg h1] at h
  have h2 : Rt s.x := by
    by_cases h2 : Rt s.x
    · exact h2
    · rw [if_neg h2] at h; exact absurd h (by decide)
  obtain ⟨o1, o2, o3, o4, o5, o6⟩ := ho
  obtain ⟨r7, hr7⟩ : ∃ r, r = be64 s.s2 := ⟨_, rfl⟩
  rw [← hr7] at hB
  obtain ⟨r6, hr6⟩ : ∃ r, r = be64 s.c2 ++ r7 := ⟨_, rfl⟩
  rw [← hr6] at hB
  obtain ⟨r5, hr5⟩ : ∃ r, r = be64 s.s1 ++ r6 := ⟨_, rfl⟩
  rw [← hr5] at hB
  obtain ⟨r4, hr4⟩ : ∃ r, r = be64 s.c1 ++ r5 := ⟨_, rfl⟩
  rw [← hr4] at hB
  obtain ⟨r3, hr3⟩ : ∃ r, r = s.box ++ r4 := ⟨_, rfl⟩
  rw [← hr3] at hB
  obtain ⟨r2, hr2⟩ : ∃ r, r = be64 s.box.length ++ r3 := ⟨_, rfl⟩
  rw [← hr2] at hB
  obtain ⟨r1, hr1⟩ : ∃ r, r = be64 s.x ++ r2 := ⟨_, rfl⟩
  rw [← hr1] at hB
  have e1 : sub1 (subB s) = (s.user, (0, r1)) := by rw [sub1_eq, hB]; exact keyS_app o1 _
  have e2 : sub2 (subB s) = (s.x, (0, r2)) := by rw [sub2_eq, e1, hr1]; exact elemS_be64 h2 _
  have e3 : sub3 (subB s) = (s.box.length, (0, r3)) := by rw [sub3_eq, e2, hr2]; exact intS_be64 (by omega) (by omega) _
  have e4 : sub4 (subB s) = (s.box, (0, r4)) := by rw [sub4_eq, e3, hr3]; exact takeS_app _ _
  have e5 : sub5 (subB s) = (s.c1, (0, r5)) := by rw [sub5_eq, e4, hr4]; exact numS_be64 _ o3 _
  have e6 : sub6 (subB s) = (s.s1, (0, r6)) := by rw [sub6_eq, e5, hr5]; exact numS_be64 _ o4 _
  have e7 : sub7 (subB s) = (s.c2, (0, r7)) := by rw [sub7_eq, e6, hr6]; exact numS_be64 _ o5 _
  have e8 : sub8 (subB s) = (s.s2, (0, [])) := by
    rw [sub8_eq, e7, hr7]
    have := numS_be64 _ o6 []
    rwa [List.append_nil] at this
  have hE : subRE (subB s) = 0 := by unfold subRE; rw [e8]; rfl
  refine ⟨hE, ?_⟩
  unfold subR
  rw [if_pos hE]
  unfold subS
  rw [e1, e2, e4, e5, e6, e7, e8]
theorem sub_again (b : List UInt8) (h : subRE b = 0) : subE (subR b) = 0 ∧ subB (subR b) = b := by
  have hR : subR b = subS b := if_pos h
  have h : overS (sub8 b).2 = 0 := h
  rw [hR]
  clear hR
  unfold subS
  have q1 := sub1_eq b
  have q2 := sub2_eq b
  have q3 := sub3_eq b
  have q4 := sub4_eq b
  have q5 := sub5_eq b
  have q6 := sub6_eq b
  have q7 := sub7_eq b
  have q8 := sub8_eq b
  generalize sub1 b = p1 at *
  generalize sub2 b = p2 at *
  generalize sub3 b = p3 at *
  generalize sub4 b = p4 at *
  generalize sub5 b = p5 at *
  generalize sub6 b = p6 at *
  generalize sub7 b = p7 at *
  generalize sub8 b = p8 at *
  have h8 : p8.2 = (0, []) := overS_ok h
  have g8 := numS_back (s := p7.2) (by rw [← q8, h8])
  rw [← q8] at g8
  have g7 := numS_back (s := p6.2) (by rw [← q7, g8])
  rw [← q7] at g7
  have g6 := numS_back (s := p5.2) (by rw [← q6, g7])
  rw [← q6] at g6
  have g5 := numS_back (s := p4.2) (by rw [← q5, g6])
  rw [← q5] at g5
  obtain ⟨g4, l4⟩ := takeS_back (n := p3.1) (s := p3.2) (by rw [← q4, g5])
  rw [← q4] at g4 l4
  obtain ⟨i1, i2, i3⟩ := intS_ok (m := 1048576) (s := p2.2) (by rw [← q3, g4])
  have g3 := numS_back i1
  rw [← i2, ← q3] at g3
  obtain ⟨j1, j2, j3⟩ := elemS_ok (s := p1.2) (by rw [← q2, g3])
  have g2 := numS_back j1
  rw [← j2, ← q2] at g2
  have g1 := keyS_back (s := (0, b)) (by rw [← q1, g2])
  rw [← q1] at g1
  have hx : Rt p2.1 := by rw [q2, j2]; exact j3
  have hl : p4.1.length ≤ 1048576 := by rw [l4, q3]; exact intS_le _ _
  have hE : subE ⟨p1.1, p2.1, p4.1, p5.1, p6.1, p7.1, p8.1⟩ = 0 := by
    have hl' : ¬ 1048576 < p4.1.length := by omega
    show (if 1048576 < p4.1.length then 3 else if Rt p2.1 then 0 else 1) = 0
    rw [if_neg hl', if_pos hx]
  refine ⟨hE, ?_⟩
  unfold subB
  rw [if_pos hE]
  show p1.1 ++ (be64 p2.1 ++ (be64 p4.1.length ++ (p4.1 ++ (be64 p5.1 ++ (be64 p6.1 ++ (be64 p7.1 ++ be64 p8.1)))))) = b
  have e7 : p7.2.2 = be64 p8.1 := by rw [g8, h8]; simp
  have e6 : p6.2.2 = be64 p7.1 ++ be64 p8.1 := by rw [g7]; simp only; rw [e7]
  have e5 : p5.2.2 = be64 p6.1 ++ (be64 p7.1 ++ be64 p8.1) := by rw [g6]; simp only; rw [e6]
  have e4 : p4.2.2 = be64 p5.1 ++ (be64 p6.1 ++ (be64 p7.1 ++ be64 p8.1)) := by rw [g5]; simp only; rw [e5]
  have e3 : p3.2.2 = p4.1 ++ (be64 p5.1 ++ (be64 p6.1 ++ (be64 p7.1 ++ be64 p8.1))) := by rw [g4]; simp only; rw [e4]
  have e2 : p2.2.2 = be64 p3.1 ++ (p4.1 ++ (be64 p5.1 ++ (be64 p6.1 ++ (be64 p7.1 ++ be64 p8.1)))) := by rw [g3]; simp only; rw [e3]
  have e1 : p1.2.2 = be64 p2.1 ++ (be64 p3.1 ++ (p4.1 ++ (be64 p5.1 ++ (be64 p6.1 ++ (be64 p7.1 ++ be64 p8.1))))) := by rw [g2]; simp only; rw [e2]
  rw [l4, ← e1]
  exact (congrArg Prod.snd g1).symm

/-! ### batches -/
abbrev Let := List UInt8 × List UInt8
structure BatD where
  round : Int
  chain : Int
  inner : List Nat
  lets : List Let
def BatOk (x : BatD) : Prop := (-9223372036854775808 ≤ x.round ∧ x.round ≤ 9223372036854775807) ∧ (-9223372036854775808 ≤ x.chain ∧ x.chain ≤ 9223372036854775807) ∧ (∀ y ∈ x.inner, y < 18446744073709551616) ∧ ∀ p ∈ x.lets, p.1.length = 32
def zeroBat : BatD := ⟨0, 0, [], []⟩
def sizeL : List Let → Nat
  | [] => 0
  | (_, b) :: _ => b.length
def longL (l : List Let) : Prop := ∃ p ∈ l, 1048576 < p.2.length
def wrongL (l : List Let) : Prop := ∃ p ∈ l, p.2.length ≠ sizeL l
instance (l : List Let) : Decidable (longL l) := by unfold longL; infer_instance
instance (l : List Let) : Decidable (wrongL l) := by unfold wrongL; infer_instance
def putsL : List Nat → List UInt8
  | [] => []
  | x :: r => be64 x ++ putsL r
def encLets : List Let → List UInt8
  | [] => []
  | (k, b) :: r => k ++ b ++ encLets r
def batE (x : BatD) : Nat := if 20 < x.inner.length ∨ 1000 < x.lets.length ∨ longL x.lets then 3 else if x.round < 0 ∨ x.chain < 0 ∨ wrongL x.lets then 1 else 0
def batB (x : BatD) : List UInt8 := if batE x = 0 then be64 x.round.toNat ++ (be64 x.chain.toNat ++ (be64 x.inner.length ++ (putsL x.inner ++ (be64 x.lets.length ++ (be64 (sizeL x.lets) ++ encLets x.lets))))) else []
def rdNums : Nat → St → List Nat × St
  | 0, s => ([], s)
  | n + 1, s => ((numS s).1 :: (rdNums n (numS s).2).1, (rdNums n (numS s).2).2)
def rdLets (k : Nat) : Nat → St → List Let × St
  | 0, s => ([], s)
  | n + 1, s => if s.1 = 0 then (((keyS s).1, (takeS k (keyS s).2).1) :: (rdLets k n (takeS k (keyS s).2).2).1, (rdLets k n (takeS k (keyS s).2).2).2) else ([], s)
def maxInt : Nat := 9223372036854775807
def bat1 (b : List UInt8) := intS maxInt (0, b)
def bat2 (b : List UInt8) := intS maxInt (bat1 b).2
def bat3 (b : List UInt8) := intS 20 (bat2 b).2
def bat4 (b : List UInt8) := rdNums (bat3 b).1 (bat3 b).2
def bat5 (b : List UInt8) := intS 1000 (bat4 b).2
def bat6 (b : List UInt8) := sizeS (bat5 b).1 (bat5 b).2
def bat7 (b : List UInt8) := rdLets (bat6 b).1 (bat5 b).1 (bat6 b).2
theorem bat1_eq (b : List UInt8) : bat1 b = intS maxInt (0, b) := rfl
theorem bat2_eq (b : List UInt8) : bat2 b = intS maxInt (bat1 b).2 := rfl
theorem bat3_eq (b : List UInt8) : bat3 b = intS 20 (bat2 b).2 := rfl
theorem bat4_eq (b : List UInt8) : bat4 b = rdNums (bat3 b).1 (bat3 b).2 := rfl
theorem bat5_eq (b : List UInt8) : bat5 b = intS 1000 (bat4 b).2 := rfl
theorem bat6_eq (b : List UInt8) : bat6 b = sizeS (bat5 b).1 (bat5 b).2 := rfl
theorem bat7_eq (b : List UInt8) : bat7 b = rdLets (bat6 b).1 (bat5 b).1 (bat6 b).2 := rfl
def batS (b : List UInt8) : BatD := ⟨((bat1 b).1 : Int), ((bat2 b).1 : Int), (bat4 b).1, (bat7 b).1⟩
def batRE (b : List UInt8) : Nat := overS (bat7 b).2
def batR (b : List UInt8) : BatD := if batRE b = 0 then batS b else zeroBat
theorem rdNums_bad {n : Nat} {s : St} (h : s.1 ≠ 0) : (rdNums n s).2 = s := by
  induction n generalizing s with
  | zero => rfl
  | succ n ih => unfold rdNums; rw [numS_bad h]; exact ih h
theorem rdLets_bad {k n : Nat} {s : St} (h : s.1 ≠ 0) : rdLets k n s = ([], s) := by
  cases n with
  | zero => rfl
  | succ n => unfold rdLets; rw [if_neg h]
theorem rdNums_len (n : Nat) (s : St) : (rdNums n s).1.length = n := by
  induction n generalizing s with
  | zero => rfl
  | succ n ih => unfold rdNums; rw [List.length_cons, ih]
theorem rdNums_lt (n : Nat) (s : St) : ∀ x ∈ (rdNums n s).1, x < 18446744073709551616 := by
  induction n generalizing s with
  | zero => intro x hx; cases hx
  | succ n ih =>
    intro x hx
    unfold rdNums at hx
    rcases List.mem_cons.1 hx with rfl | hx
    · exact numS_lt s
    · exact ih _ x hx
theorem rdLets_key {k : Nat} (n : Nat) (s : St) : ∀ p ∈ (rdLets k n s).1, p.1.length = 32 := by
  induction n generalizing s with
  | zero => intro x hx; cases hx
  | succ n ih =>
    intro p hp
    unfold rdLets at hp
    split at hp
    · rcases List.mem_cons.1 hp with rfl | hp
      · exact keyS_len s
      · exact ih _ p hp
    · cases hp
theorem batS_ok (b : List UInt8) : BatOk (batS b) := by
  have q1 := bat1_eq b
  have q2 := bat2_eq b
  have q3 := bat3_eq b
  have q4 := bat4_eq b
  have q5 := bat5_eq b
  have q6 := bat6_eq b
  have q7 := bat7_eq b
  unfold batS
  generalize bat1 b = p1 at *
  generalize bat2 b = p2 at *
  generalize bat3 b = p3 at *
  generalize bat4 b = p4 at *
  generalize bat5 b = p5 at *
  generalize bat6 b = p6 at *
  generalize bat7 b = p7 at *
  have hm : maxInt = 9223372036854775807 := rfl
  have h1 := intS_le maxInt (0, b)
  rw [← q1, hm] at h1
  have h2 := intS_le maxInt p1.2
  rw [← q2, hm] at h2
  have h3 : ∀ y ∈ p4.1, y < 18446744073709551616 := by rw [q4]; exact rdNums_lt _ _
  have h4 : ∀ p ∈ p7.1, p.1.length = 32 := by rw [q7]; exact rdLets_key _ _
  have g1 : -9223372036854775808 ≤ (p1.1 : Int) ∧ (p1.1 : Int) ≤ 9223372036854775807 := by omega
  have g2 : -9223372036854775808 ≤ (p2.1 : Int) ∧ (p2.1 : Int) ≤ 9223372036854775807 := by omega
  exact ⟨g1, g2, h3, h4⟩
theorem batR_ok (b : List UInt8) : BatOk (batR b) := by
  unfold batR; split
  · exact batS_ok b
  · refine ⟨by decide, by decide, ?_, ?_⟩
    · intro y hy; simp [zeroBat] at hy
    · intro y hy; simp [zeroBat] at hy
theorem rdNums_app : ∀ (l : List Nat) (r : List UInt8), (∀ x ∈ l, x < 18446744073709551616) → rdNums l.length (0, putsL l ++ r) = (l, (0, r)) := by
  intro l
  induction l with
  | nil => intro r _; rfl
  | cons x l ih =>
    intro r h
    have h0 := h x (by simp)
    have h1 := ih r fun q hq => h q (by simp [hq])
    show rdNums (l.length + 1) (0, be64 x ++ putsL l ++ r) = _
    unfold rdNums
    rw [List.append_assoc, numS_be64 x h0]
    simp only [h1]
theorem rdNums_back : ∀ (n : Nat) (s : St), (rdNums n s).2.1 = 0 → s = (0, putsL (rdNums n s).1 ++ (rdNums n s).2.2) := by
  intro n
  induction n with
  | zero => intro s h; exact Prod.ext h rfl
  | succ n ih =>
    intro s h
    unfold rdNums at h ⊢
    have h : (rdNums n (numS s).2).2.1 = 0 := h
    have g1 := ih _ h
    have g2 := numS_back (s := s) (by rw [g1])
    have e1 := congrArg Prod.snd g1
    show s = (0, be64 (numS s).1 ++ putsL (rdNums n (numS s).2).1 ++ (rdNums n (numS s).2).2.2)
    rw [List.append_assoc]
    have e1 : (numS s).2.2 = putsL (rdNums n (numS s).2).1 ++ (rdNums n (numS s).2).2.2 := e1
    rw [← e1]
    exact g2
theorem rdLets_app {k : Nat} : ∀ (l : List Let) (r : List UInt8), (∀ p ∈ l, p.2.length = k ∧ p.1.length = 32) → rdLets k l.length (0, encLets l ++ r) = (l, (0, r)) := by
  intro l
  induction l with
  | nil => intro r _; rfl
  | cons p l ih =>
    intro r h
    obtain ⟨x, b⟩ := p
    have h0 := h (x, b) (by simp)
    have h1 := ih r fun q hq => h q (by simp [hq])
    show rdLets k (l.length + 1) (0, x ++ b ++ encLets l ++ r) = _
    unfold rdLets
    rw [if_pos rfl, List.append_assoc, List.append_assoc, keyS_app h0.2]
    simp only [takeS_app' h0.1, h1]
theorem rdLets_back {k : Nat} : ∀ (n : Nat) (s : St), (rdLets k n s).2.1 = 0 → s = (0, encLets (rdLets k n s).1 ++ (rdLets k n s).2.2) ∧ (rdLets k n s).1.length = n ∧ ∀ p ∈ (rdLets k n s).1, p.2.length = k := by
  intro n
  induction n with
  | zero => intro s h; exact ⟨Prod.ext h rfl, rfl, fun p hp => by cases hp⟩
  | succ n ih =>
    intro s h
    unfold rdLets at h ⊢
    by_cases hs : s.1 = 0
    · rw [if_pos hs] at h ⊢
      have h : (rdLets k n (takeS k (keyS s).2).2).2.1 = 0 := h
      obtain ⟨g1, g2, g3⟩ := ih _ h
      have h4 : (takeS k (keyS s).2).2.1 = 0 := by rw [g1]
      obtain ⟨g5, g6⟩ := takeS_back h4
      have h7 : (keyS s).2.1 = 0 := by rw [g5]
      have g11 := keyS_back h7
      refine ⟨?_, by simp [g2], ?_⟩
      · show s = (0, (keyS s).1 ++ (takeS k (keyS s).2).1 ++ encLets (rdLets k n (takeS k (keyS s).2).2).1 ++ (rdLets k n (takeS k (keyS s).2).2).2.2)
        have e1 : (takeS k (keyS s).2).2.2 = encLets (rdLets k n (takeS k (keyS s).2).2).1 ++ (rdLets k n (takeS k (keyS s).2).2).2.2 := congrArg Prod.snd g1
        have e2 : (keyS s).2.2 = (takeS k (keyS s).2).1 ++ (takeS k (keyS s).2).2.2 := congrArg Prod.snd g5
        rw [List.append_assoc, List.append_assoc, ← e1, ← e2]
        exact g11
      · intro p hp
        rcases List.mem_cons.1 hp with rfl | hp
        · exact g6
        · exact g3 p hp
    · rw [if_neg hs] at h; exact absurd h hs
theorem sizeL_all {k : Nat} {l : List Let} (h : ∀ p ∈ l, p.2.length = k) (hk : l = [] → k = 0) : sizeL l = k := by
  cases l with
  | nil => exact (hk rfl).symm
  | cons p r => exact h p (by simp)
theorem bat_read (x : BatD) (h : batE x = 0) (ho : BatOk x) : batRE (batB x) = 0 ∧ batR (batB x) = x := by
  have hB : batB x = _ := if_pos h
  unfold batE at h
  by_cases h1 : 20 < x.inner.length ∨ 1000 < x.lets.length ∨ longL x.lets
  · rw [if_pos h1] at h; exact absurd h (by decide)
  rw [if_neg h1] at h
  by_cases h2 : x.round < 0 ∨ x.chain < 0 ∨ wrongL x.lets
  · rw [if_pos h2] at h; exact absurd h (by decide)
  have hl : x.lets.length ≤ 1000 := by have := fun c => h1 (Or.inr (Or.inl c)); omega
  have hi : x.inner.length ≤ 20 := by have := fun c => h1 (Or.inl c); omega
  have hr : 0 ≤ x.round := by have := fun c => h2 (Or.inl c); omega
  have hc : 0 ≤ x.chain := by have := fun c => h2 (Or.inr (Or.inl c)); omega
  obtain ⟨o1, o2, o3, o4⟩ := ho
  have hall : ∀ p ∈ x.lets, p.2.length = sizeL x.lets ∧ p.1.length = 32 := fun p hp => by
    by_cases e : p.2.length = sizeL x.lets
    · exact ⟨e, o4 p hp⟩
    · exact absurd (Or.inr (Or.inr ⟨p, hp, e⟩)) h2
  have hsz : sizeL x.lets ≤ 1048576 := by
    cases hq : x.lets with
    | nil => exact Nat.zero_le _
    | cons p r => have : ¬ 1048576 < p.2.length := fun c => h1 (Or.inr (Or.inr ⟨p, by rw [hq]; simp, c⟩))
                  have e : sizeL (p :: r) = p.2.length := by obtain ⟨x, b⟩ := p; rfl
                  omega
  obtain ⟨r6, hr6⟩ : ∃ r, r = encLets x.lets := ⟨_, rfl⟩
  rw [← hr6] at hB
  obtain ⟨r5, hr5⟩ : ∃ r, r = be64 (sizeL x.lets) ++ r6 := ⟨_, rfl⟩
  rw [← hr5] at hB
  obtain ⟨r4, hr4⟩ : ∃ r, r = be64 x.lets.length ++ r5 := ⟨_, rfl⟩
  rw [← hr4] at hB
  obtain ⟨r3, hr3⟩ : ∃ r, r = putsL x.inner ++ r4 := ⟨_, rfl⟩
  rw [← hr3] at hB
  obtain ⟨r2, hr2⟩ : ∃ r, r = be64 x.inner.length ++ r3 := ⟨_, rfl⟩
  rw [← hr2] at hB
  obtain ⟨r1, hr1⟩ : ∃ r, r = be64 x.chain.toNat ++ r2 := ⟨_, rfl⟩
  rw [← hr1] at hB
  have hm : maxInt = 9223372036854775807 := rfl
  have e1 : bat1 (batB x) = (x.round.toNat, (0, r1)) := by rw [bat1_eq, hB]; exact intS_be64 (by omega) (by omega) _
  have e2 : bat2 (batB x) = (x.chain.toNat, (0, r2)) := by rw [bat2_eq, e1, hr1]; exact intS_be64 (by omega) (by omega) _
  have e3 : bat3 (batB x) = (x.inner.length, (0, r3)) := by rw [bat3_eq, e2, hr2]; exact intS_be64 (by omega) hi _
  have e4 : bat4 (batB x) = (x.inner, (0, r4)) := by rw [bat4_eq, e3, hr3]; exact rdNums_app _ _ o3
  have e5 : bat5 (batB x) = (x.lets.length, (0, r5)) := by rw [bat5_eq, e4, hr4]; exact intS_be64 (by omega) hl _
  have e6 : bat6 (batB x) = (sizeL x.lets, (0, r6)) := by rw [bat6_eq, e5, hr5]; exact sizeS_be64 hsz (by intro e; rw [List.eq_nil_of_length_eq_zero e]; rfl) _
  have e7 : bat7 (batB x) = (x.lets, (0, [])) := by
    rw [bat7_eq, e6, e5, hr6]
    have := rdLets_app (k := sizeL x.lets) x.lets [] hall
    rwa [List.append_nil] at this
  have hE : batRE (batB x) = 0 := by unfold batRE; rw [e7]; rfl
  refine ⟨hE, ?_⟩
  unfold batR
  rw [if_pos hE]
  unfold batS
  rw [e1, e2, e4, e7]
  simp only [Int.toNat_of_nonneg hr, Int.toNat_of_nonneg hc]
theorem bat_again (b : List UInt8) (h : batRE b = 0) : batE (batR b) = 0 ∧ batB (batR b) = b := by
  have hR : batR b = batS b := if_pos h
  have h : overS (bat7 b).2 = 0 := h
  rw [hR]
  clear hR
  unfold batS
  have q1 := bat1_eq b
  have q2 := bat2_eq b
  have q3 := bat3_eq b
  have q4 := bat4_eq b
  have q5 := bat5_eq b
  have q6 := bat6_eq b
  have q7 := bat7_eq b
  generalize bat1 b = p1 at *
  generalize bat2 b = p2 at *
  generalize bat3 b = p3 at *
  generalize bat4 b = p4 at *
  generalize bat5 b = p5 at *
  generalize bat6 b = p6 at *
  generalize bat7 b = p7 at *
  have h7 : p7.2 = (0, []) := overS_ok h
  obtain ⟨g7, l7, a7⟩ := rdLets_back (k := p6.1) p5.1 p6.2 (by rw [← q7, h7])
  rw [← q7] at g7 l7 a7
  obtain ⟨z1, z2, z3⟩ := sizeS_ok (n := p5.1) (s := p5.2) (by rw [← q6, g7])
  obtain ⟨y1, y2, y3⟩ := intS_ok z1
  have g6 := numS_back y1
  rw [← y2, ← z2, ← q6] at g6
  obtain ⟨x1, x2, x3⟩ := intS_ok (m := 1000) (s := p4.2) (by rw [← q5, g6])
  have g5 := numS_back x1
  rw [← x2, ← q5] at g5
  have g4 := rdNums_back p3.1 p3.2 (by rw [← q4, g5])
  rw [← q4] at g4
  have l4 : p4.1.length = p3.1 := by rw [q4]; exact rdNums_len _ _
  obtain ⟨w1, w2, w3⟩ := intS_ok (m := 20) (s := p2.2) (by rw [← q3, g4])
  have g3 := numS_back w1
  rw [← w2, ← q3] at g3
  obtain ⟨v1, v2, v3⟩ := intS_ok (m := maxInt) (s := p1.2) (by rw [← q2, g3])
  have g2 := numS_back v1
  rw [← v2, ← q2] at g2
  obtain ⟨u1, u2, u3⟩ := intS_ok (m := maxInt) (s := (0, b)) (by rw [← q1, g2])
  have g1 := numS_back u1
  rw [← u2, ← q1] at g1
  have b5 : p5.1 ≤ 1000 := by rw [q5]; exact intS_le _ _
  have b3 : p3.1 ≤ 20 := by rw [q3]; exact intS_le _ _
  have b6 : p6.1 ≤ 1048576 := by rw [q6, z2]; exact intS_le _ _
  have hz : sizeL p7.1 = p6.1 := sizeL_all a7 (fun e => by
    rw [q6, z2]
    exact z3 (by rw [← l7, e]; rfl))
  have hE : batE ⟨(p1.1 : Int), (p2.1 : Int), p4.1, p7.1⟩ = 0 := by
    unfold batE
    rw [if_neg, if_neg]
    · rintro (hq | hq | ⟨p, hp, hq⟩)
      · have hq : (p1.1 : Int) < 0 := hq
        omega
      · have hq : (p2.1 : Int) < 0 := hq
        omega
      · exact hq ((a7 p hp).trans hz.symm)
    · rintro (hq | hq | ⟨p, hp, hq⟩)
      · have hq : 20 < p4.1.length := hq
        omega
      · have hq : 1000 < p7.1.length := hq
        omega
      · have := a7 p hp; omega
  refine ⟨hE, ?_⟩
  unfold batB
  rw [if_pos hE]
  show be64 (p1.1 : Int).toNat ++ (be64 (p2.1 : Int).toNat ++ (be64 p4.1.length ++ (putsL p4.1 ++ (be64 p7.1.length ++ (be64 (sizeL p7.1) ++ encLets p7.1))))) = b
  rw [Int.toNat_natCast, Int.toNat_natCast, hz, l7, l4]
  have e6 : p6.2.2 = encLets p7.1 := by rw [g7, h7]; simp
  have e5 : p5.2.2 = be64 p6.1 ++ encLets p7.1 := by rw [g6]; simp only; rw [e6]
  have e4 : p4.2.2 = be64 p5.1 ++ (be64 p6.1 ++ encLets p7.1) := by rw [g5]; simp only; rw [e5]
  have e3 : p3.2.2 = putsL p4.1 ++ (be64 p5.1 ++ (be64 p6.1 ++ encLets p7.1)) := by rw [g4]; simp only; rw [e4]
  have e2 : p2.2.2 = be64 p3.1 ++ (putsL p4.1 ++ (be64 p5.1 ++ (be64 p6.1 ++ encLets p7.1))) := by rw [g3]; simp only; rw [e3]
  have e1 : p1.2.2 = be64 p2.1 ++ (be64 p3.1 ++ (putsL p4.1 ++ (be64 p5.1 ++ (be64 p6.1 ++ encLets p7.1)))) := by rw [g2]; simp only; rw [e2]
  rw [← e1]
  exact (congrArg Prod.snd g1).symm
end Go.Proofs.Ythiijdbiikljpaa.Cod
