/- Structs: their fields' addresses, literals, parts, and how two of them are compared; the least and the greatest of two numbers. -/
import Derived.Test.YthiijdbiikljpaaKa
import Derived.Laws.Cover3
namespace Go.Proofs.Ythiijdbiikljpaa.KW
open Go Go.RowKit
set_option linter.unusedVariables false
set_option linter.unusedSimpArgs false

theorem info_size {P : Program} {t : TypeId} {n : Nat} (h : (P.info? t).map (·.size) = some n) (w : World) : (sizeOf t).run P w = .ok n w := by
  cases hq : P.info? t with
  | none => simp [hq] at h
  | some i =>
    have hs : i.size = n := by simpa [hq] using h
    simp [sizeOf, typeInfo, hq, hs]

theorem decE {p q : Prop} [Decidable p] [Decidable q] (h : p ↔ q) : Value.bool (decide p) = .bool (decide q) := by rw [decide_eq_decide.2 h]
theorem decT {q : Prop} [Decidable q] (h : q) : Value.bool true = .bool (decide q) := by rw [decide_eq_true h]
theorem decF {q : Prop} [Decidable q] (h : ¬ q) : Value.bool false = .bool (decide q) := by rw [decide_eq_false h]
theorem iV {k : IntKind} {a b : Int} (h : a = b) : Value.int k a = .int k b := by rw [h]
/-! ### plain types: numbers, and arrays and structs of such -/
/-- The cells' kinds of parts that lie one behind the other. -/
def glue (P : Program) : Nat → List (Field × Option (List IntKind)) → Option (List IntKind)
  | _, [] => some []
  | off, (f, some ks) :: r => bif Nat.beq f.offset off && !(f.name == "_") && (match P.info? f.type with | some i => Nat.beq i.size ks.length | none => false) then (glue P (off + ks.length) r).map (ks ++ ·) else none
  | _, (_, none) :: _ => none
def plain (P : Program) : Nat → TypeId → Option (List IntKind)
  | 0, _ => none
  | d + 1, t => match P.underlying t with
    | some (.int k) => some [k]
    | some (.array n e) => match P.underlying e, P.info? e with
      | some (.int k), some i => bif Nat.beq i.size 1 && Nat.blt 0 d then some (List.replicate n k) else none
      | _, _ => none
    | some (.struct fs) => bif P.stoodInHeld t then none else glue P 0 (fs.toList.map fun f => (f, plain P d f.type))
    | _ => none
/-- Cells of these kinds. -/
def Typed : List IntKind → List Value → Prop
  | [], [] => True
  | k :: ks, v :: vs => (∃ a, v = .int k a) ∧ Typed ks vs
  | _, _ => False
theorem Typed.length : ∀ {ks : List IntKind} {vs : List Value}, Typed ks vs → vs.length = ks.length
  | [], [], _ => rfl
  | k :: ks, v :: vs, h => by simp [Typed.length h.2]
theorem Typed.split : ∀ {ks ks' : List IntKind} {vs : List Value}, Typed (ks ++ ks') vs → Typed ks (vs.take ks.length) ∧ Typed ks' (vs.drop ks.length)
  | [], ks', vs, h => ⟨by simp [Typed], by simpa using h⟩
  | k :: ks, ks', [], h => by simp [Typed] at h
  | k :: ks, ks', v :: vs, h => ⟨⟨h.1, (Typed.split h.2).1⟩, (Typed.split h.2).2⟩
theorem Typed.append : ∀ {ks ks' : List IntKind} {vs vs' : List Value}, Typed ks vs → Typed ks' vs' → Typed (ks ++ ks') (vs ++ vs')
  | [], ks', [], vs', _, h => h
  | k :: ks, ks', v :: vs, vs', h, h' => ⟨h.1, Typed.append h.2 h'⟩
theorem Typed.get : ∀ {n : Nat} {k : IntKind} {vs : List Value}, Typed (List.replicate n k) vs → ∀ i (h : i < vs.length), ∃ a, vs[i]'h = .int k a
  | 0, k, [], _, i, h => by simp at h
  | n + 1, k, v :: vs, ht, i, h => by
    rw [List.replicate_succ] at ht
    cases i with
    | zero => exact ht.1
    | succ i => exact Typed.get ht.2 i (by simpa using h)
theorem Typed.bytes (bs : List UInt8) : Typed (List.replicate bs.length .u8) (bs.map byteV) := by
  induction bs with
  | nil => exact trivial
  | cons b r ih => exact ⟨⟨_, rfl⟩, ih⟩
theorem Typed.one : ∀ {ks : List IntKind} {vs : List Value}, Typed ks vs → ∀ u ∈ vs, u.oneCell' = true
  | [], [], _, u, hu => by cases hu
  | k :: ks, v :: vs, h, u, hu => by
    rcases List.mem_cons.1 hu with rfl | hu
    · obtain ⟨⟨a, rfl⟩, _⟩ := h; rfl
    · exact Typed.one h.2 u hu
/-- What decides whether cells of the same kinds are equal. -/
def numOf : Value → Int
  | .int _ a => a
  | _ => 0
def nums (vs : List Value) : List Int := vs.map numOf
theorem nums_take (k : Nat) (l : List Value) : nums (l.take k) = (nums l).take k := List.map_take
theorem nums_drop (k : Nat) (l : List Value) : nums (l.drop k) = (nums l).drop k := List.map_drop
theorem nums_append (a b : List Value) : nums (a ++ b) = nums a ++ nums b := List.map_append
theorem nums_inj : ∀ {ks : List IntKind} {xs ys : List Value}, Typed ks xs → Typed ks ys → nums xs = nums ys → xs = ys
  | [], [], [], _, _, _ => rfl
  | k :: ks, x :: xs, y :: ys, ⟨⟨a, hx⟩, tx⟩, ⟨⟨b, hy⟩, ty⟩, h => by
    subst hx; subst hy
    simp only [nums, List.map_cons, List.cons.injEq, numOf] at h
    rw [h.1, nums_inj tx ty h.2]
/-- The value of a plain type whose cells these are. -/
def mkV (P : Program) (t : TypeId) (cs : List Value) : Value := match P.underlying t with
  | some (.int _) => cs.headD undef
  | _ => .agg cs.toArray

theorem run_part {P : Program} {w : World} {t : TypeId} {ks : List IntKind} {d : Nat} (hp : plain P d t = some ks) (hs : (P.info? t).map (·.size) = some ks.length) {xs : List Value} {off : Nat} (hx : Typed ks ((xs.drop off).take ks.length)) :
    (part t xs.toArray off).run P w = .ok (mkV P t ((xs.drop off).take ks.length)) w := by
  cases d with
  | zero => cases hp
  | succ d =>
    have hsz := info_size hs w
    unfold plain at hp
    unfold mkV
    cases hu : P.underlying t with
    | none => rw [hu] at hp; cases hp
    | some u =>
      rw [hu] at hp
      cases u with
      | int k =>
        obtain rfl := Option.some.inj hp
        have hl := hx.length
        cases hc : (xs.drop off).take [k].length with
        | nil => rw [hc] at hl; simp at hl
        | cons v r =>
          have hv : xs[off]? = some v := by
            have h0 : ((xs.drop off).take [k].length)[0]? = some v := by rw [hc]; rfl
            rw [List.getElem?_take, if_pos (by simp), List.getElem?_drop] at h0
            simpa using h0
          simp [part, isAgg, run_underlying hu, hv]
      | array n e => simp [part, isAgg, run_underlying hu, hsz, List.extract_eq_take_drop]
      | struct fs => simp [part, isAgg, run_underlying hu, hsz, List.extract_eq_take_drop]
      | _ => cases hp

theorem run_eq_fields {P : Program} {d D : Nat} (ih : ∀ (t : TypeId) (ks : List IntKind) (xs ys : List Value), plain P d t = some ks → Typed ks xs → Typed ks ys → ∀ w, (Op.equalIn D t (mkV P t xs) (mkV P t ys)).run P w = .ok (decide (nums xs = nums ys)) w)
    (xs ys : List Value) (w : World) : ∀ (fs : List Field) (off : Nat) (ks : List IntKind), glue P off (fs.map fun f => (f, plain P d f.type)) = some ks → Typed ks (xs.drop off) → Typed ks (ys.drop off) →
    (Op.eqFields D xs.toArray ys.toArray fs).run P w = .ok (decide (nums (xs.drop off) = nums (ys.drop off))) w := by
  intro fs
  induction fs with
  | nil =>
    intro off ks h hx hy
    obtain rfl := Option.some.inj h
    have h1 : xs.drop off = [] := List.eq_nil_of_length_eq_zero (by simpa using hx.length)
    have h2 : ys.drop off = [] := List.eq_nil_of_length_eq_zero (by simpa using hy.length)
    rw [h1, h2]
    simp [Op.eqFields]
  | cons f fs ihf =>
    intro off ks h hx hy
    rw [List.map_cons] at h
    cases hp : plain P d f.type with
    | none => rw [hp] at h; simp [glue] at h
    | some k1 =>
      rw [hp] at h
      simp only [glue] at h
      cases hc : (Nat.beq f.offset off && !(f.name == "_") && (match P.info? f.type with | some i => Nat.beq i.size k1.length | none => false)) with
      | false => rw [hc] at h; simp at h
      | true =>
        rw [hc] at h
        simp only [cond_true, Option.map_eq_some_iff] at h
        obtain ⟨k2, h2, rfl⟩ := h
        simp only [Bool.and_eq_true, Bool.not_eq_true'] at hc
        have hoff : f.offset = off := Nat.eq_of_beq_eq_true hc.1.1
        have hname : f.name ≠ "_" := by intro e; rw [e] at hc; simp at hc
        have hsz : (P.info? f.type).map (·.size) = some k1.length := by
          have := hc.2
          cases hq : P.info? f.type with
          | none => rw [hq] at this; cases this
          | some i => rw [hq] at this; simp [Nat.eq_of_beq_eq_true this]
        obtain ⟨hx1, hx2⟩ := hx.split
        obtain ⟨hy1, hy2⟩ := hy.split
        rw [List.drop_drop] at hx2 hy2
        have px := run_part (w := w) hp hsz (xs := xs) (off := off) hx1
        have py := run_part (w := w) hp hsz (xs := ys) (off := off) hy1
        have pe := ih f.type k1 _ _ hp hx1 hy1 w
        have pr := ihf (off + k1.length) k2 h2 hx2 hy2
        rw [← List.drop_drop, ← List.drop_drop] at pr
        have hsplit : decide (nums (xs.drop off) = nums (ys.drop off)) = (decide (nums ((xs.drop off).take k1.length) = nums ((ys.drop off).take k1.length)) && decide (nums ((xs.drop off).drop k1.length) = nums ((ys.drop off).drop k1.length))) := by
          rw [Bool.eq_iff_iff]
          simp only [decide_eq_true_eq, Bool.and_eq_true]
          constructor
          · intro h; rw [nums_take k1.length (xs.drop off), nums_take k1.length (ys.drop off), nums_drop k1.length (xs.drop off), nums_drop k1.length (ys.drop off), h]; exact ⟨rfl, rfl⟩
          · intro h; rw [← List.take_append_drop k1.length (xs.drop off), ← List.take_append_drop k1.length (ys.drop off), nums_append, nums_append, h.1, h.2]
        simp only [Op.eqFields, ne_eq, hname, not_false_eq_true, if_true, hoff, Sem.run_bind, px, py, pe, Result.andThen_ok]
        rw [hsplit]
        cases hd : decide (nums ((xs.drop off).take k1.length) = nums ((ys.drop off).take k1.length)) with
        | false => simp
        | true => simp only [Bool.not_true, Bool.false_eq_true, if_false, Bool.true_and]; exact pr

theorem run_eq_row {P : Program} {e : TypeId} {k : IntKind} {D : Nat} (he : P.underlying e = some (.int k)) (hs : (P.info? e).map (·.size) = some 1) (n : Nat) (t : TypeId) (ht : P.underlying t = some (.array n e)) (xs ys : List Value) (hx : Typed (List.replicate n k) xs) (hy : Typed (List.replicate n k) ys) (w : World) :
    (Op.equalIn (D + 2) t (.agg xs.toArray) (.agg ys.toArray)).run P w = .ok (decide (nums xs = nums ys)) w := by
  have hlx : xs.length = n := by simpa using hx.length
  have hly : ys.length = n := by simpa using hy.length
  have hall : ∀ (m i : Nat), i + m = n → decide (nums (xs.drop i) = nums (ys.drop i)) = (List.range' i m 1).all fun j => decide ((nums xs)[j]? = (nums ys)[j]?) := by
    intro m
    induction m with
    | zero =>
      intro i hi
      rw [List.drop_of_length_le (by omega), List.drop_of_length_le (by omega)]
      simp
    | succ m ih =>
      intro i hi
      have h1 : i < xs.length := by omega
      have h2 : i < ys.length := by omega
      have e1 : (nums xs)[i]? = some (numOf xs[i]) := by unfold nums; rw [List.getElem?_map, List.getElem?_eq_getElem h1]; rfl
      have e2 : (nums ys)[i]? = some (numOf ys[i]) := by unfold nums; rw [List.getElem?_map, List.getElem?_eq_getElem h2]; rfl
      have e3 : ∀ (a : Value) (r : List Value), nums (a :: r) = numOf a :: nums r := fun _ _ => rfl
      rw [List.range'_succ, List.all_cons, ← ih (i + 1) (by omega), List.drop_eq_getElem_cons h1, List.drop_eq_getElem_cons h2, e1, e2, e3, e3, Bool.eq_iff_iff]
      simp only [decide_eq_true_eq, Bool.and_eq_true, List.cons.injEq, Option.some.injEq]
  have h0 := hall n 0 (by omega)
  rw [List.drop_zero, List.drop_zero] at h0
  rw [h0, Op.equalIn]
  simp only [Sem.run_bind, run_underlying ht, Result.andThen_ok, info_size hs, Std.Legacy.Range.forIn_eq_forIn_range', Std.Legacy.Range.size, Nat.sub_zero, Nat.add_sub_cancel, Nat.div_one]
  have hl : ∀ i ∈ List.range' 0 n 1, i < n := fun i hi => by simpa using (List.mem_range'_1.1 hi).2
  generalize List.range' 0 n 1 = l at hl ⊢
  induction l with
  | nil => simp
  | cons i l ih =>
    have hi : i < n := hl i (by simp)
    obtain ⟨a, ha⟩ := hx.get i (by omega)
    obtain ⟨b, hb⟩ := hy.get i (by omega)
    have hxa : xs[i]? = some (.int k a) := by rw [List.getElem?_eq_getElem (by omega), ha]
    have hyb : ys[i]? = some (.int k b) := by rw [List.getElem?_eq_getElem (by omega), hb]
    have px : (part e xs.toArray (i * 1)).run P w = .ok (.int k a) w := by simp [part, isAgg, run_underlying he, hxa]
    have py : (part e ys.toArray (i * 1)).run P w = .ok (.int k b) w := by simp [part, isAgg, run_underlying he, hyb]
    have pe := run_equalIn_int w D e k k a b he
    have hd : decide ((nums xs)[i]? = (nums ys)[i]?) = (a == b) := by
      unfold nums
      rw [List.getElem?_map, List.getElem?_map, hxa, hyb, Bool.eq_iff_iff]; simp [numOf]
    simp only [List.forIn_cons, Sem.run_bind, px, py, pe, Result.andThen_ok, List.all_cons, hd]
    cases hb' : (a == b)
    · simp
    · simp only [Bool.not_true, Bool.false_eq_true, if_false, Sem.run_pure, Result.andThen_ok, Bool.true_and]
      exact ih fun j hj => hl j (by simp [hj])

theorem run_eq_plain {P : Program} : ∀ (d D : Nat) (t : TypeId) (ks : List IntKind) (xs ys : List Value), d ≤ D → plain P d t = some ks → Typed ks xs → Typed ks ys → ∀ w, (Op.equalIn D t (mkV P t xs) (mkV P t ys)).run P w = .ok (decide (nums xs = nums ys)) w := by
  intro d
  induction d with
  | zero => intro D t ks xs ys _ h; cases h
  | succ d ih =>
    intro D t ks xs ys hD hp hx hy w
    obtain ⟨D, rfl⟩ : ∃ D', D = D' + 1 := ⟨D - 1, by omega⟩
    unfold plain at hp
    unfold mkV
    cases hu : P.underlying t with
    | none => rw [hu] at hp; cases hp
    | some u =>
      rw [hu] at hp
      cases u with
      | int k =>
        obtain rfl := Option.some.inj hp
        match xs, ys, hx, hy with
        | [x], [y], ⟨⟨a, hxa⟩, _⟩, ⟨⟨b, hyb⟩, _⟩ =>
          subst hxa; subst hyb
          simp only [List.headD_cons]
          rw [run_equalIn_int w D t k k a b hu]
          congr 1
          rw [Bool.eq_iff_iff]; simp [nums, numOf]
      | array n e =>
        simp only at hp
        cases he : P.underlying e with
        | none => rw [he] at hp; cases hp
        | some ue =>
          rw [he] at hp
          cases ue with
          | int k =>
            cases hq : P.info? e with
            | none => rw [hq] at hp; cases hp
            | some i =>
              rw [hq] at hp
              simp only at hp
              cases hc : (Nat.beq i.size 1 && Nat.blt 0 d) with
              | false => rw [hc] at hp; cases hp
              | true =>
                rw [hc] at hp
                simp only [cond_true, Option.some.injEq] at hp
                subst hp
                simp only [Bool.and_eq_true] at hc
                have h1 := lt_of_blt hc.2
                obtain ⟨D', rfl⟩ : ∃ D', D = D' + 1 := ⟨D - 1, by omega⟩
                exact run_eq_row he (by simp [hq, Nat.eq_of_beq_eq_true hc.1]) n t hu xs ys hx hy w
          | _ => cases hp
      | struct fs =>
        simp only at hp
        cases hst : P.stoodInHeld t with
        | true => rw [hst] at hp; cases hp
        | false =>
          rw [hst] at hp
          simp only [cond_false] at hp
          have hf : P.fieldsOf t = fs := by unfold Program.fieldsOf; rw [hu]
          rw [run_equalIn_struct w D t xs.toArray ys.toArray (by rw [hf]; exact hu) hst, hf]
          exact run_eq_fields (fun t ks xs ys h1 h2 h3 w => ih D t ks xs ys (by omega) h1 h2 h3 w) xs ys w fs.toList 0 ks hp hx hy
      | _ => cases hp

section
variable {P : Program} {N : Nat} {Q : Exit → Act → World → Prop} {l : Env} {w : World} {ops : Array Oper} {rest : List Oper} {d : Tmp} {ty : TypeId} {pos : String} {aft : Array Edge}
variable {x y : Operand} {T T' : TypeId}

theorem W.eqlP {ks : List IntKind} {xs ys : List Value} (hp : plain P 9 T = some ks) (hr : (P.underlying T).map (·.isRow) = some true) (hx : ev l x = some (.agg xs.toArray)) (hy : ev l y = some (.agg ys.toArray)) (tx : Typed ks xs) (ty' : Typed ks ys) (hg : P.eqGuardType P.depth T = false) (hN : Nat.blt d N = true)
    (next : W P N ops Q rest ((d, .bool (decide (nums xs = nums ys))) :: l) w) : W P N ops Q (⟨some d, .binOp .eql T x y T', ty, pos, aft, none⟩ :: rest) l w :=
  W.op rfl rfl hN (fun f hf => by
    have he' : (eqGuard .eql T x y (.agg xs.toArray) (.agg ys.toArray)).run P w = .ok () w := by simp [eqGuard, hg]
    have hv : ∀ cs : List Value, mkV P T cs = .agg cs.toArray := fun cs => by
      unfold mkV
      cases hu : P.underlying T with
      | none => rfl
      | some u => rw [hu] at hr; cases u <;> first | rfl | cases hr
    have hq := run_eq_plain 9 10000 T ks xs ys (by decide) hp tx ty' w
    rw [hv, hv] at hq
    have hr' : (binOp .eql T (.agg xs.toArray) (.agg ys.toArray)).run P w = .ok (.bool (decide (nums xs = nums ys))) w := by
      rw [run_eql_struct, hq, Result.andThen_ok]
    simp only [execOp, hf.ev hx, hf.ev hy, he', Sem.run_bind, Sem.run_pure, Result.andThen_ok, hr']) next
theorem W.neqP {ks : List IntKind} {xs ys : List Value} (hp : plain P 9 T = some ks) (hr : (P.underlying T).map (·.isRow) = some true) (hx : ev l x = some (.agg xs.toArray)) (hy : ev l y = some (.agg ys.toArray)) (tx : Typed ks xs) (ty' : Typed ks ys) (hg : P.eqGuardType P.depth T = false) (hN : Nat.blt d N = true)
    (next : W P N ops Q rest ((d, .bool (decide (¬ nums xs = nums ys))) :: l) w) : W P N ops Q (⟨some d, .binOp .neq T x y T', ty, pos, aft, none⟩ :: rest) l w :=
  W.op rfl rfl hN (fun f hf => by
    have he' : (eqGuard .neq T x y (.agg xs.toArray) (.agg ys.toArray)).run P w = .ok () w := by simp [eqGuard, hg]
    have hv : ∀ cs : List Value, mkV P T cs = .agg cs.toArray := fun cs => by
      unfold mkV
      cases hu : P.underlying T with
      | none => rfl
      | some u => rw [hu] at hr; cases u <;> first | rfl | cases hr
    have hq := run_eq_plain 9 10000 T ks xs ys (by decide) hp tx ty' w
    rw [hv, hv] at hq
    have hr' : (binOp .neq T (.agg xs.toArray) (.agg ys.toArray)).run P w = .ok (.bool (decide (¬ nums xs = nums ys))) w := by
      rw [run_neq_struct, hq, Result.andThen_ok]
      congr 2
      rw [Bool.eq_iff_iff]; simp
    simp only [execOp, hf.ev hx, hf.ev hy, he', Sem.run_bind, Sem.run_pure, Result.andThen_ok, hr']) next

/-! ### fields -/
/-- Field i of type s lies at off, with size cells. -/
structure Fld (P : Program) (s : TypeId) (i off size : Nat) (t : TypeId) : Prop where
  out : ∃ fs f, P.underlying s = some (.struct fs) ∧ fs[i]? = some f ∧ f.offset = off ∧ f.type = t ∧ (P.info? t).map (·.size) = some size
def fldB (P : Program) (s : TypeId) (i : Nat) : Option (Nat × Nat × TypeId) := match P.underlying s with
  | some (.struct fs) => match fs[i]? with
    | some f => match P.info? f.type with
      | some n => some (f.offset, n.size, f.type)
      | none => none
    | none => none
  | _ => none
theorem Fld.of {s : TypeId} {i off size : Nat} {t : TypeId} (h : fldB P s i = some (off, size, t)) : Fld P s i off size t := by
  unfold fldB at h
  split at h
  · rename_i fs hfs
    split at h
    · rename_i f hf
      split at h
      · rename_i n hn
        simp only [Option.some.injEq, Prod.mk.injEq] at h
        obtain ⟨h1, h2, h3⟩ := h
        exact ⟨fs, f, hfs, hf, h1, h3, by rw [← h3, hn]; simp [h2]⟩
      · cases h
    · cases h
  · cases h
theorem W.fieldAddr {s : TypeId} {i off size : Nat} {t : TypeId} {ad : Addr} (hF : Fld P s i off size t) (h0 : Nat.blt 0 size = true) (hx : ev l x = some (.pointer (some ad))) (hN : Nat.blt d N = true)
    (next : W P N ops Q rest ((d, .pointer (some (ad.add off))) :: l) w) : W P N ops Q (⟨some d, .fieldAddr s x i, ty, pos, aft, none⟩ :: rest) l w := by
  obtain ⟨fs, f, hs, hf, rfl, rfl, hi⟩ := hF.out
  refine W.op rfl rfl hN (fun a ha => ?_) next
  have h0' : ¬ size = 0 := by have := lt_of_blt h0; omega
  simp [execOp, ha.ev hx, Instr.fieldAt, run_underlying hs, hf, Instr.sureAddr, fieldPlace, info_size hi, h0']
/-- of an own block. -/
theorem W.fieldB {s : TypeId} {i off size : Nat} {t : TypeId} {g o : Nat} (hF : Fld P s i off size t) (h0 : Nat.blt 0 size = true) (hx : ev l x = some (.pointer (some ⟨g, o, none⟩))) (hN : Nat.blt d N = true)
    (next : W P N ops Q rest ((d, .pointer (some ⟨g, o + off, none⟩)) :: l) w) : W P N ops Q (⟨some d, .fieldAddr s x i, ty, pos, aft, none⟩ :: rest) l w :=
  W.fieldAddr hF h0 hx hN (by rw [add_mk]; exact next)
/-- A field of a value: of one cell. -/
theorem W.field1 {s : TypeId} {i off : Nat} {t : TypeId} {cs : List Value} {v : Value} (hF : Fld P s i off 1 t) (hr : (P.underlying t).map (·.isRow) = some false) (hx : ev l x = some (.agg cs.toArray)) (hv : cs[off]? = some v) (hN : Nat.blt d N = true)
    (next : W P N ops Q rest ((d, v) :: l) w) : W P N ops Q (⟨some d, .field s x i, ty, pos, aft, none⟩ :: rest) l w := by
  obtain ⟨fs, f, hs, hf, rfl, rfl, hi⟩ := hF.out
  refine W.op rfl rfl hN (fun a ha => ?_) next
  have hagg : (isAgg f.type).run P w = .ok false w := by
    unfold isAgg
    cases hu : P.underlying f.type with
    | none => simp [hu] at hr
    | some u => rw [hu] at hr
                rw [Sem.run_bind, run_underlying hu w]
                cases u <;> simp_all
  simp [execOp, ha.ev hx, Instr.field, run_underlying hs, hf, asAgg, part, hagg, hv]
/-- A field that is an array or a struct. -/
theorem W.fieldN {s : TypeId} {i off size : Nat} {t : TypeId} {cs : List Value} (hF : Fld P s i off size t) (hr : (P.underlying t).map (·.isRow) = some true) (hx : ev l x = some (.agg cs.toArray)) (hN : Nat.blt d N = true)
    (next : W P N ops Q rest ((d, .agg ((cs.drop off).take size).toArray) :: l) w) : W P N ops Q (⟨some d, .field s x i, ty, pos, aft, none⟩ :: rest) l w := by
  obtain ⟨fs, f, hs, hf, rfl, rfl, hi⟩ := hF.out
  refine W.op rfl rfl hN (fun a ha => ?_) next
  have hagg : (isAgg f.type).run P w = .ok true w := by
    unfold isAgg
    cases hu : P.underlying f.type with
    | none => simp [hu] at hr
    | some u => rw [hu] at hr
                rw [Sem.run_bind, run_underlying hu w]
                cases u <;> simp_all
  have hsz := info_size hi w
  simp [execOp, ha.ev hx, Instr.field, run_underlying hs, hf, asAgg, part, hagg, hsz, List.extract_eq_take_drop]

/-- One part of a literal. -/
theorem fill_cons {place : Nat → Option (Nat × Nat)} {cs us : List Value} {i off : Nat} {v : Value} {rest : List (Nat × Value)} (hv : v.cells = us.toArray) (hp : place i = some (off, us.length)) (hl : off + us.length ≤ cs.length) :
    Instr.fill place cs.toArray ((i, v) :: rest) = Instr.fill place (splice cs off us).toArray rest := by
  have hfold : ∀ (us : List Value) (k : Nat) (cs : List Value), off + k + us.length ≤ cs.length → (us.zipIdx k).foldl (fun (cs : Array Value) (p : Value × Nat) => cs.setIfInBounds (off + p.2) p.1) cs.toArray = (splice cs (off + k) us).toArray := by
    intro us
    induction us with
    | nil => intro k cs _; simp [splice]
    | cons u r ih =>
      intro k cs hl
      simp only [List.zipIdx_cons, List.foldl_cons]
      have e : cs.toArray.setIfInBounds (off + k) u = (cs.set (off + k) u).toArray := by simp
      rw [e, ih (k + 1) (cs.set (off + k) u) (by simp at hl ⊢; omega)]
      congr 1
  have h2 := hfold us 0 cs (by omega)
  simp only [Instr.fill, hp, hv]
  rw [if_neg (by simp; omega)]
  congr 1
  have e3 : us.toArray.zipIdx.foldl (fun (cs : Array Value) (p : Value × Nat) => cs.setIfInBounds (off + p.2) p.1) cs.toArray = (us.zipIdx 0).foldl (fun (cs : Array Value) (p : Value × Nat) => cs.setIfInBounds (off + p.2) p.1) cs.toArray := by
    rw [← Array.foldl_toList]; simp
  exact e3.trans h2
/-- A struct's literal. -/
theorem W.buildS {t : TypeId} {fs : Array Field} {ps : List (Nat × Operand)} {vs : List (Nat × Value)} (places : List (Nat × Nat)) (cells zs : List Value) (hT : P.underlying t = some (.struct fs)) (hz : (P.info? t).map (·.zero) = some (some (.agg zs.toArray)))
    (hpl : fs.toList.map (fun f => (P.info? f.type).map (fun n => (f.offset, n.size))) = places.map some) (hp : evps l ps = some vs)
    (hf : Instr.fill (fun i => places[i]?) zs.toArray vs = some cells.toArray) (hN : Nat.blt d N = true)
    (next : W P N ops Q rest ((d, .agg cells.toArray) :: l) w) : W P N ops Q (⟨some d, .build t ps.toArray, ty, pos, aft, none⟩ :: rest) l w := by
  refine W.op rfl rfl hN (fun a ha => ?_) next
  have hps : (ps.toArray.map fun (i, x) => (i, a.eval x)) = vs.toArray := by
    rw [List.map_toArray]; congr 1; exact ha.evps hp
  have hm : ∀ (fl : List Field) (pl : List (Nat × Nat)), fl.map (fun f => (P.info? f.type).map (fun n => (f.offset, n.size))) = pl.map some → ∀ w, (fl.mapM (m := Sem) fun f => do pure (f.offset, ← sizeOf f.type)).run P w = .ok pl w := by
    intro fl
    induction fl with
    | nil => intro pl h w; cases pl with
      | nil => simp
      | cons p r => cases h
    | cons f r ih =>
      intro pl h w
      cases pl with
      | nil => cases h
      | cons p pr =>
        simp only [List.map_cons, List.cons.injEq] at h
        obtain ⟨n, hn, rfl⟩ := Option.map_eq_some_iff.1 h.1
        have hsz : (sizeOf f.type).run P w = .ok n.size w := info_size (by simp [hn]) w
        simp only [List.mapM_cons, Sem.run_bind, hsz, Result.andThen_ok, Sem.run_pure, ih pr h.2 w]
  have hma : ∀ w, (fs.mapM (m := Sem) fun f => do pure (f.offset, ← sizeOf f.type)).run P w = .ok places.toArray w := by
    intro w
    rw [Array.mapM_eq_mapM_toList, ← bind_pure_comp, Sem.run_bind, hm fs.toList places hpl w]
    rfl
  cases hq : P.info? t with
  | none => simp [hq] at hz
  | some it =>
    have hs : it.zero = some (.agg zs.toArray) := by simpa [hq] using hz
    have hf' : Instr.fill (fun i => places.toArray[i]?) zs.toArray vs = some cells.toArray := by simpa using hf
    have hzv : ∀ w, (zeroValue t).run P w = .ok (.agg zs.toArray) w := fun w => by simp [zeroValue, typeInfo, hq, hs]
    simp only [execOp, hps, Instr.build, Sem.run_bind, hzv, Result.andThen_ok, run_underlying hT, hma, Value.cells, hf', Sem.run_pure]
/-- A slice's literal of one element that is a struct. -/
theorem W.litS {t e sz bytes : Nat} {z : Value} (cells : List Value) (hE : Elem P e sz bytes z) (hT : P.underlying t = some (.slice e)) (hx : ev l x = some (.agg cells.toArray)) (hl : cells.length = sz) (hs : sz ≤ 100000) (hN : Nat.blt d N = true)
    (next : ∀ g w', g = w.heap.size → Ext w w' → w'.ownsRow w.heap.size e sz (.slice (some ⟨g, 0, none⟩) 1 1) 1 cells → Sl w' (some ⟨g, 0, none⟩) 1 1 sz cells → W P N ops Q rest ((d, .slice (some ⟨g, 0, none⟩) 1 1) :: l) w') :
    W P N ops Q (⟨some d, .buildSlice t 1 #[(0, x)], ty, pos, aft, none⟩ :: rest) l w := by
  have hpos := hE.pos
  have hp : evps l [(0, x)] = some [(0, .agg cells.toArray)] := by simp [evps, hx]
  have hf : Instr.fill (fun i => some (i * sz, sz)) ((Array.range (1 * sz)).map (z.cells[· % z.cells.size]!)) [(0, .agg cells.toArray)] = some cells.toArray := by
    obtain ⟨zs, hzs⟩ : ∃ zs : List Value, zs = ((Array.range (1 * sz)).map (z.cells[· % z.cells.size]!)).toList := ⟨_, rfl⟩
    have h1 : (Array.range (1 * sz)).map (z.cells[· % z.cells.size]!) = zs.toArray := by rw [hzs]
    have h2 : zs.length = sz := by rw [hzs]; simp
    rw [h1, fill_cons (us := cells) (off := 0) rfl (by rw [hl, Nat.zero_mul]) (by omega), splice_all (by omega)]
    rfl
  refine W.buildSlice hE hT hp hf (by omega) (by omega) (by omega) hN fun g w' hg hx ho => ?_
  obtain ⟨ao, c, he, hs, _⟩ := ownsRow_form ho
  injection he with h1 h2 h3
  subst h1; subst h3
  exact next g w' hg hx ho hs
/-- Cells of an own block from o on. -/
theorem Bk.cellsN {g o n : Nat} {cs : List Value} (h : Bk w g cs) : Cells w ⟨g, o, none⟩ ((cs.drop o).take n) := by
  have := (h.cells (o := o)).take n
  exact this

/-! ### the least and the greatest -/
theorem W.maxI {a b : Int} {k k' : IntKind} {tys : Array TypeId} (hx : ev l x = some (.int k a)) (hy : ev l y = some (.int k' b)) (hN : Nat.blt d N = true)
    (next : W P N ops Q rest ((d, .int k (max a b)) :: l) w) : W P N ops Q (⟨some d, .call ⟨.builtin .max, #[x, y], tys⟩, ty, pos, aft, none⟩ :: rest) l w :=
  W.op rfl rfl hN (fun f ha => by
    have e : (if b > a then b else a) = max a b := by rw [Int.max_def]; split <;> split <;> omega
    simp only [execOp, resolve, invoke, builtin, List.map_toArray, List.map_cons, List.map_nil, ha.ev hx, ha.ev hy, Sem.run_bind, Sem.run_pure, Result.andThen_ok]
    simp [Builtin.max_, Builtin.max2, e]) next
theorem W.minI {a b : Int} {k k' : IntKind} {tys : Array TypeId} (hx : ev l x = some (.int k a)) (hy : ev l y = some (.int k' b)) (hN : Nat.blt d N = true)
    (next : W P N ops Q rest ((d, .int k (min a b)) :: l) w) : W P N ops Q (⟨some d, .call ⟨.builtin .min, #[x, y], tys⟩, ty, pos, aft, none⟩ :: rest) l w :=
  W.op rfl rfl hN (fun f ha => by
    have e : (if b < a then b else a) = min a b := by rw [Int.min_def]; split <;> split <;> omega
    simp only [execOp, resolve, invoke, builtin, List.map_toArray, List.map_cons, List.map_nil, ha.ev hx, ha.ev hy, Sem.run_bind, Sem.run_pure, Result.andThen_ok]
    simp [Builtin.min_, Builtin.min2, e]) next
/-- make([]T, k) of one-cell elements. -/
theorem W.make1 {t e k bytes : Nat} {z : Value} {kl kc : IntKind} {L C : Int} (hE : Elem P e 1 bytes z) (hz : z.cells = #[z]) (hT : P.underlying t = some (.slice e)) (hx : ev l x = some (.int kl L)) (hy : ev l y = some (.int kc C)) (hL : L = (k : Int)) (hC : C = (k : Int))
    (hb : bytes * k ≤ 281474976710656) (hn : k ≤ 140737488355328) (hN : Nat.blt d N = true)
    (next : ∀ g w', g = w.heap.size → Ext w w' → w'.ownsRow w.heap.size e 1 (.slice (some ⟨g, 0, none⟩) k k) k (List.replicate k z) → W P N ops Q rest ((d, .slice (some ⟨g, 0, none⟩) k k) :: l) w') :
    W P N ops Q (⟨some d, .makeSlice t x y, ty, pos, aft, none⟩ :: rest) l w := by
  refine W.make hE hT hx hy hL hC hb hn hN fun g w' hg hX ho => next g w' hg hX ?_
  have e : (madeCells z.cells (k * 1)).toList = List.replicate k z := by
    rw [hz]
    apply List.ext_getElem?
    intro i
    simp only [madeCells, Nat.mul_one]
    by_cases hi : i < k
    · simp [hi, Nat.mod_one]
    · simp [hi]
  rwa [e] at ho
/-- x == nil of a slice. -/
theorem W.eqlNil {ao : Option Addr} {n c e : Nat} (hT : P.underlying T = some (.slice e)) (hx : ev l x = some (.slice ao n c)) (hy : ev l y = some (.slice none 0 0)) (hN : Nat.blt d N = true)
    (next : W P N ops Q rest ((d, .bool ao.isNone) :: l) w) : W P N ops Q (⟨some d, .binOp .eql T x y T', ty, pos, aft, none⟩ :: rest) l w :=
  W.op rfl rfl hN (fun f hf => by
    have he : (eqGuard .eql T x y (.slice ao n c) (.slice none 0 0)) = pure () := by unfold eqGuard; split <;> rfl
    have hr : (binOp .eql T (.slice ao n c) (.slice none 0 0)).run P w = .ok (.bool ao.isNone) w := by
      simp only [binOp]
      simp [run_equal_slice_nil w T e ao n c hT]
    simp only [execOp, hf.ev hx, hf.ev hy, he, Sem.run_bind, Sem.run_pure, Result.andThen_ok, hr]) next
/-- An empty literal. -/
theorem W.lit0 {t e sz bytes : Nat} {z : Value} (hE : Elem P e sz bytes z) (hT : P.underlying t = some (.slice e)) (hN : Nat.blt d N = true)
    (next : ∀ g w', g = w.heap.size → Ext w w' → w'.ownsRow w.heap.size e sz (.slice (some ⟨g, 0, none⟩) 0 0) 0 [] → W P N ops Q rest ((d, .slice (some ⟨g, 0, none⟩) 0 0) :: l) w') :
    W P N ops Q (⟨some d, .buildSlice t 0 #[], ty, pos, aft, none⟩ :: rest) l w := by
  obtain ⟨i, hi, hz, hsz, hby⟩ := hE.out
  refine W.op (v := .slice (some ⟨w.heap.size, 0, none⟩) 0 0) (w' := w.alloc (.cells #[] e)) rfl rfl hN (fun a ha => ?_) (next _ _ rfl (Ext.alloc _ _) ?_)
  · have hrun : (Instr.buildSlice t 0 #[]).run P w = .ok (.slice (some ⟨w.heap.size, 0, none⟩) 0 0) (w.alloc (.cells #[] e)) := by
      have h0 : Array.range 0 = #[] := by simp
      simp [Instr.buildSlice, run_underlying hT, sizeOf, typeInfo, hi, Instr.fill, h0, newRow, Array.map_empty]
    simp only [execOp, Sem.run_bind, Sem.run_pure, Result.andThen_ok, hrun, Array.map_empty]
  · have := World.ownsRow_lit (base := w.heap.size) (e := e) (size := sz) w #[] 0 (Nat.le_refl _) (by decide) (by simp)
    simpa using this
end
end Go.Proofs.Ythiijdbiikljpaa.KW
