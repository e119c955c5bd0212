/- Package mailbox: taking a batch's letters. -/
import Derived.Test.YthiijdbiikljpaaMb4
namespace Go.Proofs.Ythiijdbiikljpaa.Mbx
open Go Go.RowKit Go.Proofs.Ythiijdbiikljpaa.KW Go.Proofs.Ythiijdbiikljpaa.Words Go.Proofs.Ythiijdbiikljpaa.Sha Go.Proofs.Ythiijdbiikljpaa.RSha Go.Proofs.Ythiijdbiikljpaa.Grp Go.Proofs.Ythiijdbiikljpaa.Cod Go.Proofs.Ythiijdbiikljpaa.Disk
set_option linter.unusedVariables false
set_option linter.unusedSimpArgs false
set_option maxRecDepth 100000
/-- One name's row is another one now. -/
theorem LM.put {w wz : World} {F Z X : Nat → Prop} {b : Nat} {f f' : Hs} {es E : List MapEntry} {c C J : Nat} {e0 : MapEntry} {v : Value} {k : List UInt8} (hL : LM w F Z X b f es c) (hs : Sets w F Z X) (hZ : Z b) (hk : k.length = 32)
    (hp : Pre es c (keyV k) (.slice none 0 0) E C J e0) (hm : Mp Try.prog 50 wz b (E.set J ⟨keyV k, v, e0.born⟩) C) (hch : Chg (fun q => q = b ∨ e0.val.ownBlock = some q) w wz)
    (ho : OwE (fun q => X q ∧ q < w.heap.size) wz 0 87 2 RHeld v (f' k)) (hv : v.ownBlock = e0.val.ownBlock ∨ ∀ q, v.ownBlock = some q → w.heap.size ≤ q) (hf : ∀ name, name ≠ k → f' name = f name) :
    ∃ X', LM wz (Grown F w wz) Z X' b f' (E.set J ⟨keyV k, v, e0.born⟩) C ∧ Sets wz (Grown F w wz) Z X' := by
  have hsz := hch.size
  -- the old rows
  have hold : ∀ q, e0.val.ownBlock = some q → F q ∧ X q ∧ ¬ Z q := by
    intro q hq
    rcases hp.is with ⟨_, rfl, _⟩ | ⟨rfl, _⟩
    · cases hq
    · exact hL.rows e0 (List.mem_of_getElem? hp.get) q hq
  have hvq : ∀ q, v.ownBlock = some q → Grown F w wz q ∧ (X q ∨ w.heap.size ≤ q) ∧ ¬ Z q := by
    intro q hq
    have hlt := (OwE.lt ho q hq).2
    rcases hv with h | h
    · rw [h] at hq
      obtain ⟨h1, h2, h3⟩ := hold q hq
      exact ⟨.inl h1, .inl h2, h3⟩
    · have := h q hq
      exact ⟨.inr ⟨this, hlt⟩, .inr this, fun hz => by have := hs.lt q (hs.zf q hz); omega⟩
  let X' : Nat → Prop := fun q => ¬ Grown F w wz q ∨ (X q ∧ q < w.heap.size) ∨ v.ownBlock = some q
  have hFX : ∀ q, ¬ Grown F w wz q → q < wz.heap.size → X q ∧ q < w.heap.size := fun q hq hlt => by
    have h1 : ¬ F q := fun h => hq (.inl h)
    have h2 : ¬ w.heap.size ≤ q := fun h => hq (.inr ⟨h, hlt⟩)
    exact ⟨hs.fx q h1, by omega⟩
  -- another entry, of the elder ones
  have hother : ∀ (m : Nat) (x : MapEntry), (E.set J ⟨keyV k, v, e0.born⟩)[m]? = some x → m ≠ J → x ∈ es ∧ x.key ≠ keyV k ∧ ∀ q, x.val.ownBlock = some q → e0.val.ownBlock ≠ some q := by
    intro m x hx hmJ
    rw [List.getElem?_set_ne (fun e => hmJ e.symm)] at hx
    rcases hp.is with ⟨h1, h2, rfl, rfl, _⟩ | ⟨rfl, rfl⟩
    · have hlt : m < es.length := by
        have := (List.getElem?_eq_some_iff.1 hx).1
        simp at this
        omega
      rw [List.getElem?_append_left hlt] at hx
      have hxm := List.mem_of_getElem? hx
      exact ⟨hxm, h1 x hxm, fun q _ hq => by rw [h2] at hq; cases hq⟩
    · have hxm := List.mem_of_getElem? hx
      refine ⟨hxm, fun hxk => hmJ (hL.mp.uniq hx hp.get (hxk.trans hp.key.symm)), fun q hq hq' => ?_⟩
      obtain ⟨h1, hx1⟩ := List.getElem?_eq_some_iff.1 hx
      obtain ⟨h2, hx2⟩ := List.getElem?_eq_some_iff.1 hp.get
      rcases Nat.lt_or_gt_of_ne hmJ with h3 | h3
      · exact List.pairwise_iff_getElem.1 hL.apart m J h1 h2 h3 q (by rw [hx1]; exact hq) (by rw [hx2]; exact hq')
      · exact List.pairwise_iff_getElem.1 hL.apart J m h2 h1 h3 q (by rw [hx2]; exact hq') (by rw [hx1]; exact hq)
  have hJ : J < E.length := (List.getElem?_eq_some_iff.1 hp.get).1
  refine ⟨X', ⟨hm, ?_, ?_, ?_, ?_⟩, ⟨fun q hq => .inl (hs.zf q hq), fun q hq => .inr (.inl ⟨hs.zx q hq, hs.lt q (hs.zf q hq)⟩), fun q hq => .inl hq, Grown.lt hs.lt hsz⟩⟩
  · intro x hx
    obtain ⟨m, hm'⟩ := List.mem_iff_getElem?.1 hx
    by_cases hmJ : m = J
    · subst hmJ
      rw [List.getElem?_set_self hJ] at hm'
      obtain rfl := Option.some.inj hm'
      refine ⟨k, hk, rfl, OwE.new rHeld ho fun q hq hlt => ?_⟩
      rcases hq with hq | hq | hq
      · exact .inl (hFX q hq hlt)
      · exact .inl hq
      · exact .inr hq
    · obtain ⟨h1, h2, h3⟩ := hother m x hm' hmJ
      obtain ⟨name, n1, n2, n3⟩ := hL.sound x h1
      refine ⟨name, n1, n2, ?_⟩
      rw [hf name (fun e => h2 (by rw [n2, e]))]
      have hr := hL.rows x h1
      have h4 : OwE X wz 0 87 2 RHeld x.val (f name) := OwE.chgS rHeld n3 hch (fun q hq => by
        rcases hq with rfl | hq
        · exact hs.zx _ hZ
        · exact (hold q hq).2.1) fun q hq hqS => by
        rcases hqS with rfl | hqS
        · exact (hr _ hq).2.2 hZ
        · exact h3 q hq hqS
      refine OwE.new rHeld h4 fun q hq hlt => .inl ?_
      rcases hq with hq | hq | hq
      · exact (hFX q hq hlt).1
      · exact hq.1
      · rcases (hvq q hq).2.1 with h5 | h5
        · exact h5
        · exact hs.fx q fun h6 => by have := hs.lt q h6; omega
  · intro name hn hne
    by_cases hnk : name = k
    · subst hnk
      exact ⟨_, List.mem_of_getElem? (List.getElem?_set_self hJ), rfl⟩
    · rw [hf name hnk] at hne
      obtain ⟨x, hx, hxk⟩ := hL.whole name hn hne
      obtain ⟨m, hm'⟩ := List.mem_iff_getElem?.1 hx
      have hE : E[m]? = some x := by
        rcases hp.is with ⟨_, _, rfl, _⟩ | ⟨rfl, _⟩
        · rw [List.getElem?_append_left (List.getElem?_eq_some_iff.1 hm').1]; exact hm'
        · exact hm'
      have hmJ : m ≠ J := fun e => by
        subst e
        have := Option.some.inj (hE.symm.trans hp.get)
        subst this
        exact hnk (keyV_inj (hxk.symm.trans hp.key))
      exact ⟨x, List.mem_of_getElem? (by rw [List.getElem?_set_ne (fun e => hmJ e.symm)]; exact hE), hxk⟩
  · intro x hx q hq
    obtain ⟨m, hm'⟩ := List.mem_iff_getElem?.1 hx
    by_cases hmJ : m = J
    · subst hmJ
      rw [List.getElem?_set_self hJ] at hm'
      obtain rfl := Option.some.inj hm'
      obtain ⟨h1, h2, h3⟩ := hvq q hq
      exact ⟨h1, .inr (.inr hq), h3⟩
    · obtain ⟨h1, _, _⟩ := hother m x hm' hmJ
      obtain ⟨r1, r2, r3⟩ := hL.rows x h1 q hq
      exact ⟨.inl r1, .inr (.inl ⟨r2, hs.lt q r1⟩), r3⟩
  · have hne : ∀ (m : Nat) (x : MapEntry), (E.set J ⟨keyV k, v, e0.born⟩)[m]? = some x → m ≠ J → ∀ q, x.val.ownBlock = some q → v.ownBlock ≠ some q := by
      intro m x hx hmJ q hq hvq'
      obtain ⟨h1, _, h3⟩ := hother m x hx hmJ
      rcases hv with h | h
      · rw [h] at hvq'; exact h3 q hq hvq'
      · have := h q hvq'
        have := hs.lt q (hL.rows x h1 q hq).1
        omega
    refine List.pairwise_iff_getElem.2 fun i j hi hj hij q hq hq' => ?_
    by_cases hiJ : i = J
    · subst hiJ
      refine hne j _ (List.getElem?_eq_getElem hj) (by omega) q hq' ?_
      have : (E.set i ⟨keyV k, v, e0.born⟩)[i]'hi = ⟨keyV k, v, e0.born⟩ := by rw [List.getElem_set_self]
      rw [this] at hq
      exact hq
    · by_cases hjJ : j = J
      · subst hjJ
        refine hne i _ (List.getElem?_eq_getElem hi) hiJ q hq ?_
        have : (E.set j ⟨keyV k, v, e0.born⟩)[j]'hj = ⟨keyV k, v, e0.born⟩ := by rw [List.getElem_set_self]
        rw [this] at hq'
        exact hq'
      · have hi' : i < E.length := by simpa using hi
        have hj' : j < E.length := by simpa using hj
        have e1 : (E.set J ⟨keyV k, v, e0.born⟩)[i]'hi = E[i] := List.getElem_set_ne (fun e => hiJ e.symm) _
        have e2 : (E.set J ⟨keyV k, v, e0.born⟩)[j]'hj = E[j] := List.getElem_set_ne (fun e => hjJ e.symm) _
        rw [e1] at hq
        rw [e2] at hq'
        rcases hp.is with ⟨_, h2, rfl, rfl, _⟩ | ⟨rfl, rfl⟩
        · have hi2 : i < es.length := by simp at hi'; omega
          have hj2 : j < es.length := by simp at hj'; omega
          rw [List.getElem_append_left hi2] at hq
          rw [List.getElem_append_left hj2] at hq'
          exact List.pairwise_iff_getElem.1 hL.apart i j hi2 hj2 hij q hq hq'
        · exact List.pairwise_iff_getElem.1 hL.apart i j hi' hj' hij q hq hq'
/-- The row at a key, as the map has it. -/
theorem LM.at {w : World} {F Z X : Nat → Prop} {b : Nat} {f : Hs} {es E : List MapEntry} {c C J : Nat} {e0 : MapEntry} {k : List UInt8} (hL : LM w F Z X b f es c) (hk : k.length = 32) (hp : Pre es c (keyV k) (.slice none 0 0) E C J e0) :
    OwE X w 0 87 2 RHeld e0.val (f k) ∧ ∀ q, e0.val.ownBlock = some q → F q ∧ X q ∧ ¬ Z q := by
  rcases hp.is with ⟨h1, rfl, _⟩ | ⟨rfl, _⟩
  · have : f k = [] := by
      rcases Classical.em (f k = []) with h | h
      · exact h
      · obtain ⟨x, hx, hxk⟩ := hL.whole k hk h
        exact absurd hxk (h1 x hx)
    rw [this]
    exact ⟨OwE.nil _ _ _ _ _ _, fun q hq => by cases hq⟩
  · have hm := List.mem_of_getElem? hp.get
    obtain ⟨name, n1, n2, n3⟩ := hL.sound e0 hm
    obtain rfl := keyV_inj (n2.symm.trans hp.key)
    exact ⟨n3, hL.rows e0 hm⟩
end Go.Proofs.Ythiijdbiikljpaa.Mbx
