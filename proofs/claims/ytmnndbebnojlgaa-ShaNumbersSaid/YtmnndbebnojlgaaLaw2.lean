/- The walks of chapter 2's laws. -/
import Derived.Test.YtmnndbebnojlgaaRSha
import Derived.Test.YtmnndbebnojlgaaKx
namespace Go.Proofs.Ytmnndbebnojlgaa.Law2
open Go Go.RowKit Go.Proofs.Ytmnndbebnojlgaa.KW Go.Proofs.Ytmnndbebnojlgaa.Words Go.Proofs.Ytmnndbebnojlgaa.Sha Go.Proofs.Ytmnndbebnojlgaa.RSha
set_option linter.unusedVariables false
set_option linter.unusedSimpArgs false
set_option maxRecDepth 100000

theorem sha_nil : (shaV []).take 4 = [0xe3, 0xb0, 0xc4, 0x42] := by decide +kernel
theorem take_get {l r : List UInt8} {k : Nat} (h : l.take k = r) {i : Nat} (hi : i < k) : l[i]? = r[i]? := by rw [← h, List.getElem?_take, if_pos hi]
theorem key_get {l : List UInt8} {i : Nat} {b : UInt8} (h : l[i]? = some b) : (l.map byteV)[i]? = some (byteV b) := by rw [List.getElem?_map, h]; rfl

theorem alive_ok (w : World) : Ct Try.prog 14 #[] w (fun v w' => v = .bool true ∧ Ext w w') := by
  refine Ct.enter [] Try.func14 rfl rfl rfl rfl ?_
  refine C.seq ?_
  refine C.region ?_
  refine W.assign rfl rfl ?_
  refine W.nil ?_
  refine At.thenCode ?_
  refine C.seq ?_
  refine C.region ?_
  refine W.call Try.call15 rfl (Sum_ok none 0 [] _ (Sl.none _ 1) (by decide)) rfl ?_
  rintro v2 w2 ⟨rfl, hX2⟩
  refine W.alloc (z := .agg (List.replicate 32 (byteV 0)).toArray) (List.replicate 32 (byteV 0)) (by kernel_rfl) rfl rfl ?_
  intro g1 w1 hg1 hX1 hB1
  have hl : (shaV []).length = 32 := shaV_length []
  refine W.storeA ((shaV []).map byteV) rfl rfl hB1 (by rw [List.length_map, hl]; rfl) (by rw [List.length_map, hl]; kernel_rfl) (bytes_oneCell _) ?_
  intro w3 hc3 hB1
  refine W.nil ?_
  refine At.thenCode ?_
  refine C.seq ?_
  refine C.region ?_
  refine W.indexA1 (j := 0) Words.X8 Try.underlying25 rfl rfl (by first | omega | decide) rfl ?_
  refine W.loadB rfl Try.underlying5 rfl hB1 (key_get (take_get sha_nil (by decide))) rfl ?_
  refine W.eqlI rfl rfl rfl ?_
  refine W.eqv (bT (by decide)) ?_
  refine W.move rfl rfl ?_
  refine W.wants rfl rfl rfl rfl ?_
  refine W.indexA1 (j := 1) Words.X8 Try.underlying25 rfl rfl (by first | omega | decide) rfl ?_
  refine W.wants rfl rfl rfl rfl ?_
  refine W.loadB rfl Try.underlying5 rfl hB1 (key_get (take_get sha_nil (by decide))) rfl ?_
  refine W.wants rfl rfl rfl rfl ?_
  refine W.eqlI rfl rfl rfl ?_
  refine W.eqv (bT (by decide)) ?_
  refine W.pickT rfl rfl rfl ?_
  refine W.move rfl rfl ?_
  refine W.wants rfl rfl rfl rfl ?_
  refine W.indexA1 (j := 2) Words.X8 Try.underlying25 rfl rfl (by first | omega | decide) rfl ?_
  refine W.wants rfl rfl rfl rfl ?_
  refine W.loadB rfl Try.underlying5 rfl hB1 (key_get (take_get sha_nil (by decide))) rfl ?_
  refine W.wants rfl rfl rfl rfl ?_
  refine W.eqlI rfl rfl rfl ?_
  refine W.eqv (bT (by decide)) ?_
  refine W.pickT rfl rfl rfl ?_
  refine W.move rfl rfl ?_
  refine W.wants rfl rfl rfl rfl ?_
  refine W.indexA1 (j := 3) Words.X8 Try.underlying25 rfl rfl (by first | omega | decide) rfl ?_
  refine W.wants rfl rfl rfl rfl ?_
  refine W.loadB rfl Try.underlying5 rfl hB1 (key_get (take_get sha_nil (by decide))) rfl ?_
  refine W.wants rfl rfl rfl rfl ?_
  refine W.eqlI rfl rfl rfl ?_
  refine W.eqv (bT (by decide)) ?_
  refine W.pickT rfl rfl rfl ?_
  refine W.assign rfl rfl ?_
  refine W.nil ?_
  refine At.thenCode ?_
  refine C.ret ?_
  refine At.ret1 Try.results14 rfl ?_
  exact ⟨rfl, (hX2.ext hX1).news hc3 (fun k hk => Or.inr (by have := hX2.size; omega))⟩
theorem ShaLengths_walk (n : Int) (z : Nat) (hn : -9223372036854775808 ≤ n ∧ n ≤ 9223372036854775807) (hz : z < 256) (w : World) :
    Ct Try.prog 3 #[.int .i64 n, .int .u8 (z : Int)] w (LawOk w) := by
  refine Ct.enter [(0, .int .i64 n), (1, .int .u8 (z : Int))] Try.func3 rfl rfl rfl rfl ?_
  refine C.seq ?_
  refine C.region ?_
  refine W.assign rfl rfl ?_
  refine W.nil ?_
  refine At.thenCode ?_
  refine C.seq ?_
  refine C.region ?_
  refine W.call Try.call14 rfl (alive_ok _) rfl ?_
  rintro v8 w8 ⟨rfl, hX8⟩
  refine W.assign rfl rfl ?_
  refine W.nil ?_
  refine At.thenCode ?_
  refine C.seq ?_
  refine C.seq ?_
  refine C.region ?_
  refine W.move rfl rfl ?_
  first | refine W.notD rfl rfl ?_ | refine W.notB rfl rfl ?_
  refine W.move rfl rfl ?_
  refine W.wants rfl rfl rfl rfl ?_
  refine W.move rfl rfl ?_
  refine W.wants rfl rfl rfl rfl ?_
  refine W.lssI rfl rfl rfl ?_
  refine W.pickF rfl rfl rfl ?_
  refine W.move rfl rfl ?_
  first | refine W.splitD (fun g15 => ?_) (fun g15 => ?_) | refine W.splitB (fun g15 => ?_) (fun g15 => ?_)
  · refine W.skips rfl rfl rfl rfl rfl rfl ?_
    refine W.skips rfl rfl rfl rfl rfl rfl ?_
    refine W.pickT rfl rfl rfl ?_
    refine W.nil ?_
    refine At.thenCode ?_
    refine C.condT rfl ?_
    refine C.seq ?_
    refine C.region ?_
    refine W.move rfl rfl ?_
    refine W.assign rfl rfl ?_
    refine W.nil ?_
    refine At.thenCode ?_
    refine C.ret ?_
    refine At.thenRet ?_
    refine At.ret1 Try.results3 rfl ?_
    exact ⟨rfl, hX8.below⟩
  · refine W.wants rfl rfl rfl rfl ?_
    refine W.move rfl rfl ?_
    refine W.wants rfl rfl rfl rfl ?_
    refine W.gtrI rfl rfl rfl ?_
    refine W.pickF rfl rfl rfl ?_
    refine W.nil ?_
    refine At.thenCode ?_
    first | refine C.condD rfl (fun c18 => ?_) (fun c18 => ?_) | refine C.cond rfl (fun c18 => ?_) (fun c18 => ?_)
    · refine C.seq ?_
      refine C.region ?_
      refine W.move rfl rfl ?_
      refine W.assign rfl rfl ?_
      refine W.nil ?_
      refine At.thenCode ?_
      refine C.ret ?_
      refine At.thenRet ?_
      refine At.ret1 Try.results3 rfl ?_
      exact ⟨rfl, hX8.below⟩
    · refine C.skip ?_
      refine At.thenCode ?_
      refine C.seq ?_
      refine C.region ?_
      refine W.move rfl rfl ?_
      obtain ⟨k, rfl⟩ : ∃ k : Nat, n = (k : Int) := ⟨n.toNat, by omega⟩
      refine W.make (n := k) E8 Try.underlying23 rfl rfl rfl rfl (by omega) (by omega) rfl ?_
      intro g21 w21 hg21 hX21 ho21
      have ho21 : Ow w21 w8.heap.size 5 (.slice (some ⟨g21, 0, none⟩) k k) (List.replicate k 0) := by
        have e : (madeCells (Value.cells (.int .u8 0)) (k * 1)).toList = (List.replicate k (0 : UInt8)).map byteV := by
          apply List.ext_getElem?
          intro i
          simp only [madeCells, Nat.mul_one, Value.cells]
          by_cases hi : i < k
          · simp [hi, byteV, Nat.mod_one]
          · simp [hi]
        rw [e] at ho21
        show World.ownsRow _ _ _ _ _ _ _
        rw [List.length_replicate]
        exact ho21
      refine W.assign rfl rfl ?_
      refine W.nil ?_
      refine At.thenCode ?_
      refine C.seq ?_
      refine C.seq ?_
      refine C.region ?_
      refine W.assign rfl rfl ?_
      refine W.nil ?_
      refine At.thenCode ?_
      refine C.block ?_
      refine C.loop (X := Nat × (List UInt8)) (fun x_ => [(0, .int .i64 (k : Int)), (1, .int .u8 (z : Int)), (6, .slice (some ⟨g21, 0, none⟩) k k), (7, .int .i64 (x_.1 : Int))]) (fun x_ w1 => Ext w w1 ∧ x_.1 ≤ k ∧ x_.2.length = k ∧ Ow w1 w8.heap.size 5 (.slice (some ⟨g21, 0, none⟩) k k) x_.2) (fun x_ => k - x_.1) (0, List.replicate k 0) (Sub.cons (rfl) (Sub.cons (rfl) (Sub.cons (rfl) (Sub.cons (rfl) (Sub.nil))))) ?start1 ?_
      case start1 =>
        show Ext w _ ∧ (0) ≤ k ∧ (List.replicate k 0).length = k ∧ Ow _ w8.heap.size 5 (.slice (some ⟨g21, 0, none⟩) k k) (List.replicate k 0)
        exact ⟨hX8.ext hX21, by omega, List.length_replicate, ho21⟩
      rintro ⟨i, xs⟩ w1 hI_
      replace hI_ : Ext w w1 ∧ i ≤ k ∧ xs.length = k ∧ Ow w1 w8.heap.size 5 (.slice (some ⟨g21, 0, none⟩) k k) xs := hI_
      obtain ⟨hX1, hi, hxl, hO1⟩ := hI_
      refine C.weaken (l' := [(0, .int .i64 (k : Int)), (1, .int .u8 (z : Int)), (6, .slice (some ⟨g21, 0, none⟩) k k), (7, .int .i64 (i : Int))]) (Sub.cons (rfl) (Sub.cons (rfl) (Sub.cons (rfl) (Sub.cons (rfl) (Sub.nil))))) ?_
      refine C.seq ?_
      refine C.seq ?_
      refine C.region ?_
      refine W.move rfl rfl ?_
      refine W.move rfl rfl ?_
      refine W.lssI rfl rfl rfl ?_
      refine W.nil ?_
      refine At.thenCode ?_
      first | refine C.condD rfl (fun c24 => ?_) (fun c24 => ?_) | refine C.cond rfl (fun c24 => ?_) (fun c24 => ?_)
      · obtain ⟨ao1, c1, he1, hS1, hb1⟩ := ownsRow_form hO1
        obtain ⟨rfl, rfl⟩ : ao1 = some ⟨g21, 0, none⟩ ∧ k = c1 := by injection he1 with h1 h2 h3; exact ⟨h1.symm, h3⟩
        refine C.skip ?_
        refine At.thenCode ?_
        refine C.seq ?_
        refine C.block ?_
        refine C.region ?_
        refine W.move rfl rfl ?_
        refine W.move rfl rfl ?_
        refine W.move rfl rfl ?_
        have hS1' : Sl w1 (some ⟨g21, 0, none⟩) k k 1 (xs.map byteV) := by rw [← hxl]; rw [← hxl] at hS1; exact hS1
        refine W.indexS E8 Try.underlying23 rfl hS1' rfl (by omega) rfl ?_
        intro ad30 _ had _
        obtain rfl : ad30 = ⟨g21, i, none⟩ := by rw [had _ rfl, add_mk, Int.toNat_natCast, Nat.zero_add, Nat.mul_one]
        have hO1' : w1.ownsRow w8.heap.size 5 1 (.slice (some ⟨g21, 0, none⟩) k k) k (xs.map byteV) := by
          have := hO1
          unfold Ow at this
          rw [hxl] at this
          exact this
        refine W.storeO (u := byteV (UInt8.ofNat z)) rfl (look_eq rfl (by rw [byteV_ofNat, Nat.mod_eq_of_lt hz])) rfl hO1' (by omega) (by kernel_rfl) ?_
        intro w9 hc9 hO9
        rw [← List.map_set] at hO9
        refine W.nil ?_
        refine At.blockNormal ?_
        refine At.thenCode ?_
        refine C.region ?_
        refine W.move rfl rfl ?_
        first | refine W.addI rfl rfl (by omega) rfl ?_ | refine W.addW rfl rfl rfl ?_
        refine W.assign rfl rfl ?_
        refine W.nil ?_
        refine At.thenRound (i + 1, xs.set i (UInt8.ofNat z)) (Sub.cons (rfl) (Sub.cons (rfl) (Sub.cons (rfl) (Sub.cons (look_eq rfl (by rw [show (i : Int) + 1 = ((i + 1 : Nat) : Int) by omega])) (Sub.nil))))) (show Ext w _ ∧ (i + 1) ≤ k ∧ (xs.set i (UInt8.ofNat z)).length = k ∧ Ow _ w8.heap.size 5 (.slice (some ⟨g21, 0, none⟩) k k) (xs.set i (UInt8.ofNat z)) from ?_) (show k - (i + 1) < k - i from ?_)
        · exact ⟨hX1.news hc9 (fun q hq => Or.inr (by have := hX8.size; omega)), by omega, by rw [List.length_set]; exact hxl, by show World.ownsRow _ _ _ _ _ _ _; rw [List.length_set, hxl]; exact hO9⟩
        · omega
      · obtain ⟨ao1, c1, he1, hS1, hb1⟩ := ownsRow_form hO1
        have hS1 : Bs w1 (some ⟨g21, 0, none⟩) k xs := by injection he1 with h1 h2 h3; subst h1; subst h3; exact hS1
        obtain rfl : k = xs.length := hxl.symm
        refine C.exit ?_
        refine At.thenExit ?_
        refine At.thenExit ?_
        refine At.blockSelf ?_
        refine At.thenCode ?_
        refine C.seq ?_
        refine C.region ?_
        refine W.move rfl rfl ?_
        refine W.call Try.call15 rfl (Sum_ok _ _ _ _ hS1 (by omega)) rfl ?_
        rintro v32 w32 ⟨rfl, hX32⟩
        refine W.move rfl rfl ?_
        refine W.call Try.call16 rfl (RSha_ok _ _ _ _ (hS1.ext hX32) (by omega)) rfl ?_
        rintro v34 w34 ⟨rfl, hX34⟩
        refine W.eqlKey (a := shaV xs) (b := shaV xs) Try.underlying25 Try.underlying5 (by kernel_rfl) rfl rfl (shaV_length _) (shaV_length _) (by kernel_rfl) rfl ?_
        refine W.eqv (bT (rfl)) ?_
        refine W.assign rfl rfl ?_
        refine W.nil ?_
        refine At.thenCode ?_
        refine C.ret ?_
        refine At.ret1 Try.results3 rfl ?_
        exact ⟨rfl, Ext.below ((hX1.ext hX32).ext hX34)⟩
theorem partsV_bound {ls : List (List UInt8)} {m : Nat} (h : ∀ i (hi : i < ls.length), (ls[i]'hi).length ≤ m) : (partsV ls).length ≤ ls.length * (m + 8) := by
  induction ls with
  | nil => simp [partsV]
  | cons x r ih =>
    have h0 := h 0 (by simp)
    have h1 := ih (fun i hi => by have := h (i + 1) (by simp; omega); simpa using this)
    simp only [List.getElem_cons_zero] at h0
    simp only [partsV, List.length_append, be64_length, List.length_cons, Nat.succ_mul]
    omega
theorem ShaSums_walk (ao : Option Addr) (c : Nat) (xs : List UInt8) (ap : Option Addr) (cp : Nat) (ls : List (List UInt8)) (w : World) (hS : Bs w ao c xs) (hl : xs.length ≤ 9223372036854775807) (hB : Bss w ap cp ls) (hlb : ls.length ≤ 9223372036854775807) :
    Ct Try.prog 6 #[.slice ao xs.length c, .slice ap ls.length cp] w (LawOk w) := by
  refine Ct.enter [(0, .slice ao xs.length c), (1, .slice ap ls.length cp)] Try.func6 rfl rfl rfl rfl ?_
  refine C.seq ?_
  refine C.region ?_
  refine W.assign rfl rfl ?_
  refine W.nil ?_
  refine At.thenCode ?_
  refine C.seq ?_
  refine C.region ?_
  refine W.call Try.call14 rfl (alive_ok _) rfl ?_
  rintro v7 w7 ⟨rfl, hX7⟩
  have hS := hS.ext hX7
  have hB := hB.ext hX7
  refine W.assign rfl rfl ?_
  refine W.nil ?_
  refine At.thenCode ?_
  refine C.seq ?_
  refine C.seq ?_
  refine C.region ?_
  refine W.move rfl rfl ?_
  first | refine W.notD rfl rfl ?_ | refine W.notB rfl rfl ?_
  refine W.move rfl rfl ?_
  refine W.wants rfl rfl rfl rfl ?_
  refine W.move rfl rfl ?_
  refine W.wants rfl rfl rfl rfl ?_
  refine W.lenS rfl Try.underlying23 rfl ?_
  refine W.wants rfl rfl rfl rfl ?_
  refine W.gtrI rfl rfl rfl ?_
  refine W.pickF rfl rfl rfl ?_
  refine W.move rfl rfl ?_
  first | refine W.splitD (fun g15 => ?_) (fun g15 => ?_) | refine W.splitB (fun g15 => ?_) (fun g15 => ?_)
  · refine W.skips rfl rfl rfl rfl rfl rfl ?_
    refine W.skips rfl rfl rfl rfl rfl rfl ?_
    refine W.skips rfl rfl rfl rfl rfl rfl ?_
    refine W.pickT rfl rfl rfl ?_
    refine W.nil ?_
    refine At.thenCode ?_
    refine C.condT rfl ?_
    refine C.seq ?_
    refine C.region ?_
    refine W.move rfl rfl ?_
    refine W.assign rfl rfl ?_
    refine W.nil ?_
    refine At.thenCode ?_
    refine C.ret ?_
    refine At.thenRet ?_
    refine At.ret1 Try.results6 rfl ?_
    exact ⟨rfl, hX7.below⟩
  · refine W.wants rfl rfl rfl rfl ?_
    refine W.move rfl rfl ?_
    refine W.wants rfl rfl rfl rfl ?_
    refine W.lenS rfl Try.underlying29 rfl ?_
    refine W.wants rfl rfl rfl rfl ?_
    refine W.gtrI rfl rfl rfl ?_
    refine W.pickF rfl rfl rfl ?_
    refine W.nil ?_
    refine At.thenCode ?_
    first | refine C.condD rfl (fun c19 => ?_) (fun c19 => ?_) | refine C.cond rfl (fun c19 => ?_) (fun c19 => ?_)
    · refine C.seq ?_
      refine C.region ?_
      refine W.move rfl rfl ?_
      refine W.assign rfl rfl ?_
      refine W.nil ?_
      refine At.thenCode ?_
      refine C.ret ?_
      refine At.thenRet ?_
      refine At.ret1 Try.results6 rfl ?_
      exact ⟨rfl, hX7.below⟩
    · refine C.skip ?_
      refine At.thenCode ?_
      refine C.seq ?_
      refine C.seq ?_
      refine C.region ?_
      refine W.assign rfl rfl ?_
      refine W.nil ?_
      refine At.thenCode ?_
      refine C.block ?_
      refine C.loop (X := Nat) (fun x_ => [(0, .slice ao xs.length c), (1, .slice ap ls.length cp), (6, .int .i64 (x_ : Int))]) (fun x_ w1 => w7 = w1 ∧ x_ ≤ ls.length ∧ ∀ k (hk : k < ls.length), k < x_ → (ls[k]'hk).length ≤ 200) (fun x_ => ls.length - x_) (0) (Sub.cons (rfl) (Sub.cons (rfl) (Sub.cons (rfl) (Sub.nil)))) ?start1 ?_
      case start1 =>
        show w7 = _ ∧ (0) ≤ ls.length ∧ ∀ k (hk : k < ls.length), k < (0) → (ls[k]'hk).length ≤ 200
        exact ⟨rfl, by omega, fun k hk h => by omega⟩
      rintro i w1 hI_
      replace hI_ : w7 = w1 ∧ i ≤ ls.length ∧ ∀ k (hk : k < ls.length), k < i → (ls[k]'hk).length ≤ 200 := hI_
      obtain ⟨rfl, hi, hsm⟩ := hI_
      refine C.weaken (l' := [(0, .slice ao xs.length c), (1, .slice ap ls.length cp), (6, .int .i64 (i : Int))]) (Sub.cons (rfl) (Sub.cons (rfl) (Sub.cons (rfl) (Sub.nil)))) ?_
      refine C.seq ?_
      refine C.seq ?_
      refine C.region ?_
      refine W.move rfl rfl ?_
      refine W.move rfl rfl ?_
      refine W.lenS rfl Try.underlying29 rfl ?_
      refine W.lssI rfl rfl rfl ?_
      refine W.nil ?_
      refine At.thenCode ?_
      first | refine C.condD rfl (fun c24 => ?_) (fun c24 => ?_) | refine C.cond rfl (fun c24 => ?_) (fun c24 => ?_)
      · have hlt : i < ls.length := by omega
        obtain ⟨vs, hvs, hrep⟩ := hB
        obtain ⟨u, hu, a, c', rfl, hSx⟩ := hrep i hlt
        refine C.skip ?_
        refine At.thenCode ?_
        refine C.seq ?_
        refine C.block ?_
        refine C.seq ?_
        refine C.region ?_
        refine W.move rfl rfl ?_
        refine W.move rfl rfl ?_
        refine W.idx EB Try.underlying29 Try.underlying23 rfl rfl hvs rfl (by omega) (by rw [Int.toNat_natCast]; exact hu) rfl rfl ?_
        intro p29
        -- read with the address
        refine W.lenS rfl Try.underlying23 rfl ?_
        refine W.gtrI rfl rfl rfl ?_
        refine W.nil ?_
        refine At.thenCode ?_
        first | refine C.condD rfl (fun c32 => ?_) (fun c32 => ?_) | refine C.cond rfl (fun c32 => ?_) (fun c32 => ?_)
        · refine C.seq ?_
          refine C.region ?_
          refine W.assign rfl rfl ?_
          refine W.nil ?_
          refine At.thenCode ?_
          refine C.ret ?_
          refine At.blockRet ?_
          refine At.thenRet ?_
          refine At.thenRet ?_
          refine At.blockRet ?_
          refine At.thenRet ?_
          refine At.ret1 Try.results6 rfl ?_
          exact ⟨rfl, hX7.below⟩
        · refine C.skip ?_
          refine At.blockNormal ?_
          refine At.thenCode ?_
          refine C.region ?_
          refine W.move rfl rfl ?_
          first | refine W.addI rfl rfl (by omega) rfl ?_ | refine W.addW rfl rfl rfl ?_
          refine W.assign rfl rfl ?_
          refine W.nil ?_
          refine At.thenRound (i + 1) (Sub.cons (rfl) (Sub.cons (rfl) (Sub.cons (look_eq rfl (by rw [show (i : Int) + 1 = ((i + 1 : Nat) : Int) by omega])) (Sub.nil)))) (show w7 = _ ∧ (i + 1) ≤ ls.length ∧ ∀ k (hk : k < ls.length), k < (i + 1) → (ls[k]'hk).length ≤ 200 from ?_) (show ls.length - (i + 1) < ls.length - i from ?_)
          · refine ⟨rfl, by omega, fun k hk h => ?_⟩
            by_cases e : k = i
            · subst e; omega
            · exact hsm k hk (by omega)
          · omega
      · have hpb := partsV_bound (ls := ls) (m := 200) (fun k hk => hsm k hk (by omega))
        refine C.exit ?_
        refine At.thenExit ?_
        refine At.thenExit ?_
        refine At.blockSelf ?_
        refine At.thenCode ?_
        refine C.seq ?_
        refine C.region ?_
        refine W.move rfl rfl ?_
        refine W.appendB E8 Try.underlying23 rfl rfl (Ow.nil _ _ 5) hS (by simp; omega) (Nat.le_refl _) rfl ?_
        rw [List.nil_append]
        intro v34 w34 ho34 hg34 _
        have hX34 : Ext w7 w34 := (Chg.of_grown hg34).mono fun k hk => by cases hk
        obtain ⟨ao34, c34, rfl, hS34, hb34⟩ := ownsRow_form ho34
        refine W.call Try.call15 rfl (Sum_ok _ _ _ _ hS34 (by omega)) rfl ?_
        rintro v35 w35 ⟨rfl, hX35⟩
        refine W.move rfl rfl ?_
        refine W.call Try.call16 rfl (RSha_ok _ _ _ _ ((hS.ext hX34).ext hX35) (by omega)) rfl ?_
        rintro v37 w37 ⟨rfl, hX37⟩
        refine W.eqlKey (a := shaV xs) (b := shaV xs) Try.underlying25 Try.underlying5 (by kernel_rfl) rfl rfl (shaV_length _) (shaV_length _) (by kernel_rfl) rfl ?_
        refine W.eqv (bT (rfl)) ?_
        refine W.move rfl rfl ?_
        refine W.wants rfl rfl rfl rfl ?_
        refine W.move rfl rfl ?_
        refine W.wants rfl rfl rfl rfl ?_
        have hB3 := ((hB.ext hX34).ext hX35).ext hX37
        refine W.call Try.call19 rfl (Parts_ok _ _ _ _ hB3 (by omega) (by omega)) rfl ?_
        rintro v41 w41 ⟨rfl, hX41⟩
        refine W.wants rfl rfl rfl rfl ?_
        refine W.move rfl rfl ?_
        refine W.wants rfl rfl rfl rfl ?_
        refine W.call Try.call20 rfl (RParts_ok _ _ _ _ (hB3.ext hX41) (by omega) (by omega)) rfl ?_
        rintro v43 w43 ⟨rfl, hX43⟩
        refine W.wants rfl rfl rfl rfl ?_
        refine W.eqlKey (a := shaV (partsV ls)) (b := shaV (partsV ls)) Try.underlying25 Try.underlying5 (by kernel_rfl) rfl rfl (shaV_length _) (shaV_length _) (by kernel_rfl) rfl ?_
        refine W.eqv (bT (rfl)) ?_
        refine W.pickT rfl rfl rfl ?_
        refine W.assign rfl rfl ?_
        refine W.nil ?_
        refine At.thenCode ?_
        refine C.ret ?_
        refine At.ret1 Try.results6 rfl ?_
        exact ⟨rfl, Ext.below (((((hX7.ext hX34).ext hX35).ext hX37).ext hX41).ext hX43)⟩
theorem ShaParts_walk (ao : Option Addr) (c : Nat) (xs : List UInt8) (ap : Option Addr) (cp : Nat) (ys : List UInt8) (w : World) (hS : Bs w ao c xs) (hl : xs.length ≤ 9223372036854775807) (hY : Bs w ap cp ys) (hly : ys.length ≤ 9223372036854775807) :
    Ct Try.prog 7 #[.slice ao xs.length c, .slice ap ys.length cp] w (LawOk w) := by
  refine Ct.enter [(0, .slice ao xs.length c), (1, .slice ap ys.length cp)] Try.func7 rfl rfl rfl rfl ?_
  refine C.seq ?_
  refine C.region ?_
  refine W.assign rfl rfl ?_
  refine W.nil ?_
  refine At.thenCode ?_
  refine C.seq ?_
  refine C.region ?_
  refine W.call Try.call14 rfl (alive_ok _) rfl ?_
  rintro v8 w8 ⟨rfl, hX8⟩
  have hS := hS.ext hX8
  have hY := hY.ext hX8
  refine W.assign rfl rfl ?_
  refine W.nil ?_
  refine At.thenCode ?_
  refine C.seq ?_
  refine C.seq ?_
  refine C.region ?_
  refine W.move rfl rfl ?_
  first | refine W.notD rfl rfl ?_ | refine W.notB rfl rfl ?_
  refine W.move rfl rfl ?_
  refine W.wants rfl rfl rfl rfl ?_
  refine W.move rfl rfl ?_
  refine W.wants rfl rfl rfl rfl ?_
  refine W.lenS rfl Try.underlying23 rfl ?_
  refine W.wants rfl rfl rfl rfl ?_
  refine W.gtrI rfl rfl rfl ?_
  refine W.pickF rfl rfl rfl ?_
  refine W.move rfl rfl ?_
  first | refine W.splitD (fun g16 => ?_) (fun g16 => ?_) | refine W.splitB (fun g16 => ?_) (fun g16 => ?_)
  · refine W.skips rfl rfl rfl rfl rfl rfl ?_
    refine W.skips rfl rfl rfl rfl rfl rfl ?_
    refine W.skips rfl rfl rfl rfl rfl rfl ?_
    refine W.pickT rfl rfl rfl ?_
    refine W.nil ?_
    refine At.thenCode ?_
    refine C.condT rfl ?_
    refine C.seq ?_
    refine C.region ?_
    refine W.move rfl rfl ?_
    refine W.assign rfl rfl ?_
    refine W.nil ?_
    refine At.thenCode ?_
    refine C.ret ?_
    refine At.thenRet ?_
    refine At.ret1 Try.results7 rfl ?_
    exact ⟨rfl, hX8.below⟩
  · refine W.wants rfl rfl rfl rfl ?_
    refine W.move rfl rfl ?_
    refine W.wants rfl rfl rfl rfl ?_
    refine W.lenS rfl Try.underlying23 rfl ?_
    refine W.wants rfl rfl rfl rfl ?_
    refine W.gtrI rfl rfl rfl ?_
    refine W.pickF rfl rfl rfl ?_
    refine W.nil ?_
    refine At.thenCode ?_
    first | refine C.condD rfl (fun c20 => ?_) (fun c20 => ?_) | refine C.cond rfl (fun c20 => ?_) (fun c20 => ?_)
    · refine C.seq ?_
      refine C.region ?_
      refine W.move rfl rfl ?_
      refine W.assign rfl rfl ?_
      refine W.nil ?_
      refine At.thenCode ?_
      refine C.ret ?_
      refine At.thenRet ?_
      refine At.ret1 Try.results7 rfl ?_
      exact ⟨rfl, hX8.below⟩
    · refine C.skip ?_
      refine At.thenCode ?_
      refine C.seq ?_
      refine C.region ?_
      refine W.move rfl rfl ?_
      refine W.move rfl rfl ?_
      have hpl : (partsV [xs, ys]).length = xs.length + ys.length + 16 := by simp [partsV, be64_length]; omega
      refine W.litV [.slice ao xs.length c, .slice ap ys.length cp] EB Try.underlying29 rfl rfl (fun u hu => by simp at hu; rcases hu with rfl | rfl <;> rfl) rfl rfl rfl ?_
      intro g24 w24 hg24 hX24 ho24 hS24
      have hS := hS.ext hX24
      have hY := hY.ext hX24
      have hB24 : Bss w24 (some ⟨g24, 0, none⟩) 2 [xs, ys] := ⟨_, hS24, fun i hi => by
        rcases (show i = 0 ∨ i = 1 by simp at hi; omega) with rfl | rfl
        · exact ⟨_, rfl, _, _, rfl, hS⟩
        · exact ⟨_, rfl, _, _, rfl, hY⟩⟩
      refine W.call Try.call19 rfl (Parts_ok _ _ [xs, ys] _ hB24 (by simp) (by omega)) rfl ?_
      rintro v25 w25 ⟨rfl, hX25⟩
      have hS := hS.ext hX25
      have hY := hY.ext hX25
      refine W.alloc (z := .agg (List.replicate 32 (byteV 0)).toArray) (List.replicate 32 (byteV 0)) (by kernel_rfl) rfl rfl ?_
      intro g6 w6 hg6 hX6 hB6
      have hkl := shaV_length (partsV [xs, ys])
      refine W.storeA ((shaV (partsV [xs, ys])).map byteV) rfl rfl hB6 (by rw [List.length_map, hkl]; rfl) (by rw [List.length_map, hkl]; kernel_rfl) (bytes_oneCell _) ?_
      intro w7 hc7 hB6
      have hs24 := hX24.size
      have hs25 := hX25.size
      have hs8 := hX8.size
      have hX7' : Ext w25 w7 := hX6.news hc7 (fun k hk => Or.inr (by omega))
      have hX7 : Ext w w7 := ((hX8.ext hX24).ext hX25).ext hX7'
      have hS := hS.ext hX7'
      have hY := hY.ext hX7'
      refine W.nil ?_
      refine At.thenCode ?_
      refine C.seq ?_
      refine C.region ?_
      refine W.assign rfl rfl ?_
      refine W.nil ?_
      refine At.thenCode ?_
      refine C.seq ?_
      refine C.region ?_
      refine W.move rfl rfl ?_
      refine W.move rfl rfl ?_
      refine W.lenS rfl Try.underlying23 rfl ?_
      refine W.convU (m := xs.length) (M := 18446744073709551616) rfl Try.underlying3 Try.underlying40 rfl rfl (by omega) rfl ?_
      refine W.call Try.call21 rfl (Words.RPut64_ok none 0 [] xs.length _ (Sl.none _ 1) (by decide)) rfl ?_
      rintro v30 w30 ⟨hO30, hX30⟩
      rw [List.nil_append] at hO30
      refine W.move rfl rfl ?_
      refine W.appendB E8 Try.underlying23 rfl rfl hO30 (hS.ext hX30) (by rw [be64_length]; omega) hX30.size rfl ?_
      intro v32 w32 ho32 hg32 _
      have hX32 : Ext w7 w32 := hX30.news (Chg.of_grown hg32) (fun k hk => Or.inr ((World.ownsRow.lt hO30 k hk.symm).1))
      obtain ⟨ao32, c32, rfl, hS32, hb32⟩ := ownsRow_form ho32
      refine W.assign rfl rfl ?_
      refine W.nil ?_
      refine At.thenCode ?_
      refine C.seq ?_
      refine C.region ?_
      refine W.move rfl rfl ?_
      refine W.move rfl rfl ?_
      refine W.lenS rfl Try.underlying23 rfl ?_
      refine W.convU (m := ys.length) (M := 18446744073709551616) rfl Try.underlying3 Try.underlying40 rfl rfl (by omega) rfl ?_
      refine W.call Try.call21 rfl (Words.RPut64_ok _ _ _ ys.length _ hS32 (by rw [List.length_append, be64_length]; omega)) rfl ?_
      rintro v37 w37 ⟨hO37, hX37⟩
      refine W.move rfl rfl ?_
      refine W.appendB E8 Try.underlying23 rfl rfl hO37 ((hY.ext hX32).ext hX37) (by simp only [List.length_append, be64_length]; omega) hX37.size rfl ?_
      intro v39 w39 ho39 hg39 _
      have hX39 : Ext w32 w39 := hX37.news (Chg.of_grown hg39) (fun k hk => Or.inr ((World.ownsRow.lt hO37 k hk.symm).1))
      have hP : be64 xs.length ++ xs ++ be64 ys.length ++ ys = partsV [xs, ys] := by simp [partsV]
      rw [hP] at ho39
      obtain ⟨ao39, c39, rfl, hS39, hb39⟩ := ownsRow_form ho39
      have hB6 := (hB6.ext hX32).ext hX39
      refine W.assign rfl rfl ?_
      refine W.nil ?_
      refine At.thenCode ?_
      refine C.seq ?_
      refine C.regionAny 17 ((fun v w => v = keyV (shaV (partsV [xs, ys]))) :: (fun v w => v = .slice ao39 (partsV [xs, ys]).length c39) :: (fun v w => v = keyV (shaV (partsV [xs, ys]))) :: (fun v w => v = .bool true) :: (fun v w => v = .bool true) :: (fun v w => v = keyV (shaV [])) :: (fun v w => v = keyV (shaV [])) :: (fun v w => v = .bool true) :: (fun v w => v = .bool true) :: (fun v w => v = .bool true) :: (fun v w => ∃ ao c, v = .slice ao 1 c ∧ Bss w ao c [[]]) :: (fun v w => v = keyV (shaV (List.replicate 8 0))) :: (fun v w => ∃ ao c, v = .slice ao 8 c ∧ Bs w ao c (List.replicate 8 0)) :: (fun v w => v = keyV (shaV (List.replicate 8 0))) :: (fun v w => v = .bool true) :: (fun v w => v = .bool true) :: (fun v w => v = .bool true) :: []) [(6, .pointer (some ⟨g6, 0, none⟩)), (7, .slice ao39 (partsV [xs, ys]).length c39)] [] (Sub.cons (rfl) (Sub.cons (rfl) (Sub.nil))) (Sub.nil) (Sub.cons (rfl) (Sub.cons (rfl) (Sub.nil))) (by kernel_rfl) rfl rfl rfl (And.intro (fun _ _ _ h _ => h) (And.intro (fun _ _ _ h _ => h) (And.intro (fun _ _ _ h _ => h) (And.intro (fun _ _ _ h _ => h) (And.intro (fun _ _ _ h _ => h) (And.intro (fun _ _ _ h _ => h) (And.intro (fun _ _ _ h _ => h) (And.intro (fun _ _ _ h _ => h) (And.intro (fun _ _ _ h _ => h) (And.intro (fun _ _ _ h _ => h) (And.intro (fun _ _ _ ⟨ao, c, e, h⟩ g => ⟨ao, c, e, h.ext g⟩) (And.intro (fun _ _ _ h _ => h) (And.intro (fun _ _ _ ⟨ao, c, e, h⟩ g => ⟨ao, c, e, Sl.ext h g⟩) (And.intro (fun _ _ _ h _ => h) (And.intro (fun _ _ _ h _ => h) (And.intro (fun _ _ _ h _ => h) (And.intro (fun _ _ _ h _ => h) (trivial)))))))))))))))))) ?_ ?_
      · refine And.intro ?_ ?_
        · intro L_ w40 hX_ hs_ hf_ hd_
          refine W.step [(6, _)] (Sub.cons (hs_ _ _ rfl) (Sub.refl _)) ?_
          refine W.loadA (cs := (shaV (partsV [xs, ys])).map byteV) rfl ((hB6.ext hX_).cells (o := 0)) Try.underlying25 rfl (by rw [List.length_map, hkl]; kernel_rfl) rfl ?_
          refine W.nil ?_
          exact At.step (Ext.refl _) rfl
        refine And.intro ?_ ?_
        · intro L_ w40 hX_ hs_ hf_ hd_
          refine W.step [(7, _)] (Sub.cons (hs_ _ _ rfl) (Sub.refl _)) ?_
          refine W.move rfl rfl ?_
          refine W.nil ?_
          exact At.step (Ext.refl _) rfl
        refine And.intro ?_ ?_
        · intro L_ w40 hX_ hs_ hf_ hd_
          obtain ⟨v1, e1, r1⟩ := hd_ 1 rfl
          obtain rfl : (.slice ao39 (partsV [xs, ys]).length c39 : Value) = v1 := Eq.symm r1
          refine W.step [(41, _)] (Sub.cons (e1 _ rfl) (Sub.refl _)) ?_
          refine W.call Try.call15 rfl (Sum_ok _ _ _ _ (hS39.ext hX_) (by omega)) rfl ?_
          rintro v42 w42 ⟨rfl, hX42⟩
          refine W.nil ?_
          exact At.step hX42 rfl
        refine And.intro ?_ ?_
        · intro L_ w40 hX_ hs_ hf_ hd_
          obtain ⟨v0, e0, r0⟩ := hd_ 0 rfl
          obtain rfl : (keyV (shaV (partsV [xs, ys])) : Value) = v0 := Eq.symm r0
          obtain ⟨v2, e2, r2⟩ := hd_ 2 rfl
          obtain rfl : (keyV (shaV (partsV [xs, ys])) : Value) = v2 := Eq.symm r2
          refine W.step [(40, _), (42, _)] (Sub.cons (e0 _ rfl) (Sub.cons (e2 _ rfl) (Sub.refl _))) ?_
          refine W.eqlKey (a := shaV (partsV [xs, ys])) (b := shaV (partsV [xs, ys])) Try.underlying25 Try.underlying5 (by kernel_rfl) rfl rfl (shaV_length _) (shaV_length _) (by kernel_rfl) rfl ?_
          refine W.eqv (bT (rfl)) ?_
          refine W.nil ?_
          exact At.step (Ext.refl _) rfl
        refine And.intro ?_ ?_
        · intro L_ w40 hX_ hs_ hf_ hd_
          obtain ⟨v3, e3, r3⟩ := hd_ 3 rfl
          obtain rfl : (.bool true : Value) = v3 := Eq.symm r3
          refine W.step [(43, _)] (Sub.cons (e3 _ rfl) (Sub.refl _)) ?_
          refine W.move rfl rfl ?_
          refine W.nil ?_
          exact At.step (Ext.refl _) rfl
        refine And.intro ?_ ?_
        · intro L_ w40 hX_ hs_ hf_ hd_
          obtain ⟨v4, e4, r4⟩ := hd_ 4 rfl
          obtain rfl : (.bool true : Value) = v4 := Eq.symm r4
          refine W.step [(44, _)] (Sub.cons (e4 _ rfl) (Sub.refl _)) ?_
          refine W.wants rfl rfl rfl rfl ?_
          refine W.call Try.call19 rfl (Parts_ok none 0 [] _ ⟨[], Sl.none _ 1, fun i hi => by simp at hi⟩ (by decide) (by decide)) rfl ?_
          rintro v45 w45 ⟨rfl, hX45⟩
          refine W.nil ?_
          exact At.step hX45 rfl
        refine And.intro ?_ ?_
        · intro L_ w40 hX_ hs_ hf_ hd_
          obtain ⟨v4, e4, r4⟩ := hd_ 4 rfl
          obtain rfl : (.bool true : Value) = v4 := Eq.symm r4
          refine W.step [(44, _)] (Sub.cons (e4 _ rfl) (Sub.refl _)) ?_
          refine W.wants rfl rfl rfl rfl ?_
          refine W.call Try.call15 rfl (Sum_ok none 0 [] _ (Sl.none _ 1) (by decide)) rfl ?_
          rintro v46 w46 ⟨rfl, hX46⟩
          refine W.nil ?_
          exact At.step hX46 rfl
        refine And.intro ?_ ?_
        · intro L_ w40 hX_ hs_ hf_ hd_
          obtain ⟨v5, e5, r5⟩ := hd_ 5 rfl
          obtain rfl : (keyV (shaV []) : Value) = v5 := Eq.symm r5
          obtain ⟨v6, e6, r6⟩ := hd_ 6 rfl
          obtain rfl : (keyV (shaV []) : Value) = v6 := Eq.symm r6
          obtain ⟨v4, e4, r4⟩ := hd_ 4 rfl
          obtain rfl : (.bool true : Value) = v4 := Eq.symm r4
          refine W.step [(45, _), (46, _), (44, _)] (Sub.cons (e5 _ rfl) (Sub.cons (e6 _ rfl) (Sub.cons (e4 _ rfl) (Sub.refl _)))) ?_
          refine W.wants rfl rfl rfl rfl ?_
          refine W.eqlKey (a := shaV []) (b := shaV []) Try.underlying25 Try.underlying5 (by kernel_rfl) rfl rfl (shaV_length _) (shaV_length _) (by kernel_rfl) rfl ?_
          refine W.eqv (bT (rfl)) ?_
          refine W.nil ?_
          exact At.step (Ext.refl _) rfl
        refine And.intro ?_ ?_
        · intro L_ w40 hX_ hs_ hf_ hd_
          obtain ⟨v4, e4, r4⟩ := hd_ 4 rfl
          obtain rfl : (.bool true : Value) = v4 := Eq.symm r4
          obtain ⟨v7, e7, r7⟩ := hd_ 7 rfl
          obtain rfl : (.bool true : Value) = v7 := Eq.symm r7
          refine W.step [(44, _), (47, _)] (Sub.cons (e4 _ rfl) (Sub.cons (e7 _ rfl) (Sub.refl _))) ?_
          refine W.pickT rfl rfl rfl ?_
          refine W.nil ?_
          exact At.step (Ext.refl _) rfl
        refine And.intro ?_ ?_
        · intro L_ w40 hX_ hs_ hf_ hd_
          obtain ⟨v8, e8, r8⟩ := hd_ 8 rfl
          obtain rfl : (.bool true : Value) = v8 := Eq.symm r8
          refine W.step [(48, _)] (Sub.cons (e8 _ rfl) (Sub.refl _)) ?_
          refine W.move rfl rfl ?_
          refine W.nil ?_
          exact At.step (Ext.refl _) rfl
        refine And.intro ?_ ?_
        · intro L_ w40 hX_ hs_ hf_ hd_
          obtain ⟨v9, e9, r9⟩ := hd_ 9 rfl
          obtain rfl : (.bool true : Value) = v9 := Eq.symm r9
          refine W.step [(49, _)] (Sub.cons (e9 _ rfl) (Sub.refl _)) ?_
          refine W.wants rfl rfl rfl rfl ?_
          refine W.litV [.slice none 0 0] EB Try.underlying29 rfl rfl (fun u hu => by simp at hu; subst hu; rfl) rfl rfl rfl ?_
          intro g50 w50 hg50 hX50 ho50 hS50
          have hB50 : Bss w50 (some ⟨g50, 0, none⟩) 1 [[]] := ⟨_, hS50, fun i hi => by
            obtain rfl : i = 0 := by simp at hi; omega
            exact ⟨_, rfl, none, 0, rfl, Sl.none _ 1⟩⟩
          refine W.nil ?_
          exact At.step hX50 ⟨_, _, rfl, hB50⟩
        refine And.intro ?_ ?_
        · intro L_ w40 hX_ hs_ hf_ hd_
          obtain ⟨v10, e10, r10⟩ := hd_ 10 rfl
          obtain ⟨ao10, c10, rfl, hB10⟩ := r10
          obtain ⟨v9, e9, r9⟩ := hd_ 9 rfl
          obtain rfl : (.bool true : Value) = v9 := Eq.symm r9
          refine W.step [(50, _), (49, _)] (Sub.cons (e10 _ rfl) (Sub.cons (e9 _ rfl) (Sub.refl _))) ?_
          refine W.wants rfl rfl rfl rfl ?_
          refine W.call Try.call19 rfl (Parts_ok _ _ [[]] _ hB10 (by decide) (by decide)) rfl ?_
          rintro v51 w51 ⟨rfl, hX51⟩
          rw [show partsV [[]] = List.replicate 8 0 from by decide]
          refine W.nil ?_
          exact At.step hX51 rfl
        refine And.intro ?_ ?_
        · intro L_ w40 hX_ hs_ hf_ hd_
          obtain ⟨v9, e9, r9⟩ := hd_ 9 rfl
          obtain rfl : (.bool true : Value) = v9 := Eq.symm r9
          refine W.step [(49, _)] (Sub.cons (e9 _ rfl) (Sub.refl _)) ?_
          refine W.wants rfl rfl rfl rfl ?_
          refine W.makeB (k := 8) E8 Try.underlying23 rfl rfl rfl rfl (by decide) (by decide) rfl ?_
          intro g52 w52 hg52 hX52 ho52
          have hB52 : Bs w52 (some ⟨g52, 0, none⟩) 8 (List.replicate 8 0) := by
            obtain ⟨ao1, c1, he1, hS1, _⟩ := ownsRow_form ho52
            injection he1 with h1 h2 h3
            subst h1; subst h3
            exact hS1
          refine W.nil ?_
          exact At.step hX52 ⟨_, _, rfl, hB52⟩
        refine And.intro ?_ ?_
        · intro L_ w40 hX_ hs_ hf_ hd_
          obtain ⟨v12, e12, r12⟩ := hd_ 12 rfl
          obtain ⟨ao12, c12, rfl, hB12⟩ := r12
          obtain ⟨v9, e9, r9⟩ := hd_ 9 rfl
          obtain rfl : (.bool true : Value) = v9 := Eq.symm r9
          refine W.step [(52, _), (49, _)] (Sub.cons (e12 _ rfl) (Sub.cons (e9 _ rfl) (Sub.refl _))) ?_
          refine W.wants rfl rfl rfl rfl ?_
          refine W.call Try.call15 rfl (Sum_ok _ _ (List.replicate 8 0) _ hB12 (by decide)) rfl ?_
          rintro v53 w53 ⟨rfl, hX53⟩
          refine W.nil ?_
          exact At.step hX53 rfl
        refine And.intro ?_ ?_
        · intro L_ w40 hX_ hs_ hf_ hd_
          obtain ⟨v11, e11, r11⟩ := hd_ 11 rfl
          obtain rfl : (keyV (shaV (List.replicate 8 0)) : Value) = v11 := Eq.symm r11
          obtain ⟨v13, e13, r13⟩ := hd_ 13 rfl
          obtain rfl : (keyV (shaV (List.replicate 8 0)) : Value) = v13 := Eq.symm r13
          obtain ⟨v9, e9, r9⟩ := hd_ 9 rfl
          obtain rfl : (.bool true : Value) = v9 := Eq.symm r9
          refine W.step [(51, _), (53, _), (49, _)] (Sub.cons (e11 _ rfl) (Sub.cons (e13 _ rfl) (Sub.cons (e9 _ rfl) (Sub.refl _)))) ?_
          refine W.wants rfl rfl rfl rfl ?_
          refine W.eqlKey (a := shaV (List.replicate 8 0)) (b := shaV (List.replicate 8 0)) Try.underlying25 Try.underlying5 (by kernel_rfl) rfl rfl (shaV_length _) (shaV_length _) (by kernel_rfl) rfl ?_
          refine W.eqv (bT (rfl)) ?_
          refine W.nil ?_
          exact At.step (Ext.refl _) rfl
        refine And.intro ?_ ?_
        · intro L_ w40 hX_ hs_ hf_ hd_
          obtain ⟨v9, e9, r9⟩ := hd_ 9 rfl
          obtain rfl : (.bool true : Value) = v9 := Eq.symm r9
          obtain ⟨v14, e14, r14⟩ := hd_ 14 rfl
          obtain rfl : (.bool true : Value) = v14 := Eq.symm r14
          refine W.step [(49, _), (54, _)] (Sub.cons (e9 _ rfl) (Sub.cons (e14 _ rfl) (Sub.refl _))) ?_
          refine W.pickT rfl rfl rfl ?_
          refine W.nil ?_
          exact At.step (Ext.refl _) rfl
        refine And.intro ?_ ?_
        · intro L_ w40 hX_ hs_ hf_ hd_
          obtain ⟨v15, e15, r15⟩ := hd_ 15 rfl
          obtain rfl : (.bool true : Value) = v15 := Eq.symm r15
          refine W.step [(55, _)] (Sub.cons (e15 _ rfl) (Sub.refl _)) ?_
          refine W.assign rfl rfl ?_
          refine W.nil ?_
          exact At.step (Ext.refl _) rfl
        exact trivial
      · intro L_ w40 hX8 hs_ hv_
        obtain ⟨v16, e16, r16⟩ := hv_ 16 (by decide)
        obtain rfl : (.bool true : Value) = v16 := Eq.symm r16
        refine W.weaken (l' := [(4, _), (6, _), (7, _)]) (Sub.cons (e16 _ rfl) (Sub.cons (hs_ _ _ rfl) (Sub.cons (hs_ _ _ rfl) (Sub.nil)))) ?_
        refine W.nil ?_
        refine At.thenCode ?_
        refine C.ret ?_
        refine At.ret1 Try.results7 rfl ?_
        exact ⟨rfl, Ext.below (((hX7.ext hX32).ext hX39).ext hX8)⟩

def known : List (List UInt8) := [[], [97, 98, 99], [97, 98, 99, 100, 98, 99, 100, 101, 99, 100, 101, 102, 100, 101, 102, 103, 101, 102, 103, 104, 102, 103, 104, 105, 103, 104, 105, 106, 104, 105, 106, 107, 105, 106, 107, 108, 106, 107, 108, 109, 107, 108, 109, 110, 108, 109, 110, 111, 109, 110, 111, 112, 110, 111, 112, 113]]
def wanted : List (List UInt8) := [[0xe3, 0xb0, 0xc4, 0x42, 0x98, 0xfc, 0x1c, 0x14], [0xba, 0x78, 0x16, 0xbf, 0x8f, 0x01, 0xcf, 0xea], [0x24, 0x8d, 0x6a, 0x61, 0xd2, 0x06, 0x38, 0xb8]]
theorem known_ok : ∀ k, k < 3 → (shaV (known.getD k [])).take 8 = wanted.getD k [] := by decide +kernel
theorem known_len : ∀ k, k < 3 → (known.getD k []).length ≤ 56 ∧ (wanted.getD k []).length = 8 := by decide +kernel
theorem ES : Elem Try.prog 9 1 16 (.string ⟨#[]⟩) := Elem.of (by kernel_rfl) rfl rfl
theorem ShaKnown_walk (n : Int) (hn : -9223372036854775808 ≤ n ∧ n ≤ 9223372036854775807) (w : World) :
    Ct Try.prog 4 #[.int .i64 n] w (LawOk w) := by
  refine Ct.enter [(0, .int .i64 n)] Try.func4 rfl rfl rfl rfl ?_
  refine C.seq ?_
  refine C.region ?_
  refine W.assign rfl rfl ?_
  refine W.nil ?_
  refine At.thenCode ?_
  refine C.seq ?_
  refine C.region ?_
  refine W.call Try.call14 rfl (alive_ok _) rfl ?_
  rintro v8 w8 ⟨rfl, hX8⟩
  refine W.assign rfl rfl ?_
  refine W.nil ?_
  refine At.thenCode ?_
  refine C.seq ?_
  refine C.region ?_
  refine W.litV (known.map strV) ES Try.underlying28 rfl rfl (fun u hu => by obtain ⟨_, _, rfl⟩ := List.mem_map.1 hu; rfl) rfl rfl rfl ?_
  intro g9 w9 hg9 hX9 ho9 hS9
  refine W.assign rfl rfl ?_
  refine W.nil ?_
  refine At.thenCode ?_
  refine C.seq ?_
  refine C.region ?_
  refine W.litB [0xe3, 0xb0, 0xc4, 0x42, 0x98, 0xfc, 0x1c, 0x14] E8 Try.underlying23 rfl rfl rfl rfl rfl ?_
  intro g10 w10 hg10 hX10 _ hb10
  refine W.litB [0xba, 0x78, 0x16, 0xbf, 0x8f, 0x01, 0xcf, 0xea] E8 Try.underlying23 rfl rfl rfl rfl rfl ?_
  intro g11 w11 hg11 hX11 _ hb11
  refine W.litB [0x24, 0x8d, 0x6a, 0x61, 0xd2, 0x06, 0x38, 0xb8] E8 Try.underlying23 rfl rfl rfl rfl rfl ?_
  intro g12 w12 hg12 hX12 _ hb12
  refine W.litV [.slice (some ⟨g10, 0, none⟩) 8 8, .slice (some ⟨g11, 0, none⟩) 8 8, .slice (some ⟨g12, 0, none⟩) 8 8] EB Try.underlying29 rfl rfl (fun u hu => by simp at hu; rcases hu with rfl | rfl | rfl <;> rfl) rfl rfl rfl ?_
  intro g13 w13 hg13 hX13 ho13 hS13
  have hB13 : Bss w13 (some ⟨g13, 0, none⟩) 3 wanted := ⟨_, hS13, fun i hi => by
    rcases (show i = 0 ∨ i = 1 ∨ i = 2 by simp [wanted] at hi; omega) with rfl | rfl | rfl
    · exact ⟨_, rfl, _, _, rfl, Sl.ext (Sl.ext (Sl.ext hb10 hX11) hX12) hX13⟩
    · exact ⟨_, rfl, _, _, rfl, Sl.ext (Sl.ext hb11 hX12) hX13⟩
    · exact ⟨_, rfl, _, _, rfl, Sl.ext hb12 hX13⟩⟩
  have hXa : Ext w w13 := ((((hX8.ext hX9).ext hX10).ext hX11).ext hX12).ext hX13
  have hS9 : Sl w13 (some ⟨g9, 0, none⟩) 3 3 1 (known.map strV) := Sl.ext (Sl.ext (Sl.ext (Sl.ext hS9 hX10) hX11) hX12) hX13
  refine W.assign rfl rfl ?_
  refine W.nil ?_
  refine At.thenCode ?_
  refine C.seq ?_
  refine C.seq ?_
  refine C.region ?_
  refine W.move rfl rfl ?_
  first | refine W.notD rfl rfl ?_ | refine W.notB rfl rfl ?_
  refine W.move rfl rfl ?_
  refine W.wants rfl rfl rfl rfl ?_
  refine W.move rfl rfl ?_
  refine W.wants rfl rfl rfl rfl ?_
  refine W.lssI rfl rfl rfl ?_
  refine W.pickF rfl rfl rfl ?_
  refine W.move rfl rfl ?_
  first | refine W.splitD (fun g20 => ?_) (fun g20 => ?_) | refine W.splitB (fun g20 => ?_) (fun g20 => ?_)
  · refine W.skips rfl rfl rfl rfl rfl rfl ?_
    refine W.skips rfl rfl rfl rfl rfl rfl ?_
    refine W.skips rfl rfl rfl rfl rfl rfl ?_
    refine W.skips rfl rfl rfl rfl rfl rfl ?_
    refine W.pickT rfl rfl rfl ?_
    refine W.nil ?_
    refine At.thenCode ?_
    refine C.condT rfl ?_
    refine C.seq ?_
    refine C.region ?_
    refine W.move rfl rfl ?_
    refine W.assign rfl rfl ?_
    refine W.nil ?_
    refine At.thenCode ?_
    refine C.ret ?_
    refine At.thenRet ?_
    refine At.ret1 Try.results4 rfl ?_
    exact ⟨rfl, hXa.below⟩
  · refine W.wants rfl rfl rfl rfl ?_
    refine W.move rfl rfl ?_
    refine W.wants rfl rfl rfl rfl ?_
    refine W.move rfl rfl ?_
    refine W.wants rfl rfl rfl rfl ?_
    refine W.lenS rfl Try.underlying28 rfl ?_
    refine W.wants rfl rfl rfl rfl ?_
    refine W.geqI rfl rfl rfl ?_
    refine W.pickF rfl rfl rfl ?_
    refine W.nil ?_
    refine At.thenCode ?_
    first | refine C.condD rfl (fun c25 => ?_) (fun c25 => ?_) | refine C.cond rfl (fun c25 => ?_) (fun c25 => ?_)
    · refine C.seq ?_
      refine C.region ?_
      refine W.move rfl rfl ?_
      refine W.assign rfl rfl ?_
      refine W.nil ?_
      refine At.thenCode ?_
      refine C.ret ?_
      refine At.thenRet ?_
      refine At.ret1 Try.results4 rfl ?_
      exact ⟨rfl, hXa.below⟩
    · refine C.skip ?_
      refine At.thenCode ?_
      refine C.seq ?_
      refine C.region ?_
      obtain ⟨k, rfl⟩ : ∃ k : Nat, n = (k : Int) := ⟨n.toNat, by omega⟩
      have hk3 : k < 3 := by
        have : ¬ ((3 : Nat) : Int) ≤ (k : Int) := by assumption
        omega
      obtain ⟨m, hm⟩ : ∃ m, m = known.getD k [] := ⟨_, rfl⟩
      obtain ⟨q, hq⟩ : ∃ q, q = wanted.getD k [] := ⟨_, rfl⟩
      have hmq := known_ok k hk3
      have hml := known_len k hk3
      rw [← hm, ← hq] at hmq hml
      have hkm : (known.map strV)[k]? = some (strV m) := by
        rw [hm]
        rcases (show k = 0 ∨ k = 1 ∨ k = 2 by omega) with rfl | rfl | rfl <;> rfl
      refine W.move rfl rfl ?_
      refine W.move rfl rfl ?_
      refine W.idx (v := strV m) ES Try.underlying28 Try.underlying9 rfl rfl hS9 rfl (by omega) (by rw [Int.toNat_natCast]; exact hkm) rfl rfl ?_
      intro p29
      -- read with the address
      refine W.strBytes Try.underlying9 Try.underlying23 Try.underlying5 rfl rfl ?_
      intro g31 c31 w31 hg31 hX31 hS31
      refine W.call Try.call15 rfl (Sum_ok _ _ _ _ hS31 (by omega)) rfl ?_
      rintro v32 w32 ⟨rfl, hX32⟩
      refine W.alloc (z := .agg (List.replicate 32 (byteV 0)).toArray) (List.replicate 32 (byteV 0)) (by kernel_rfl) rfl rfl ?_
      intro g6 w6 hg6 hX6 hB6
      have hkl := shaV_length m
      refine W.storeA ((shaV m).map byteV) rfl rfl hB6 (by rw [List.length_map, hkl]; rfl) (by rw [List.length_map, hkl]; kernel_rfl) (bytes_oneCell _) ?_
      intro w7 hc7 hB6
      have hX7 : Ext w13 w7 := ((hX31.ext hX32).ext hX6).news hc7 (fun k hk => Or.inr (by have := hX31.size; have := hX32.size; omega))
      obtain ⟨vs, hvs, hrep⟩ := hB13.ext hX7
      obtain ⟨u, hu, a, c', rfl, hSq⟩ := hrep k hk3
      have hqk : wanted[k]'hk3 = q := by
        rw [hq]
        rcases (show k = 0 ∨ k = 1 ∨ k = 2 by omega) with rfl | rfl | rfl <;> rfl
      rw [hqk] at hu hSq
      rw [hml.2] at hu
      have hvs3 : Sl w7 (some ⟨g13, 0, none⟩) 3 3 1 vs := hvs
      refine W.nil ?_
      refine At.thenCode ?_
      refine C.seq ?_
      refine C.seq ?_
      refine C.region ?_
      refine W.assign rfl rfl ?_
      refine W.nil ?_
      refine At.thenCode ?_
      refine C.block ?_
      refine C.loop (X := Nat) (fun x_ => [(0, .int .i64 (k : Int)), (5, .slice (some ⟨g13, 0, none⟩) 3 3), (6, .pointer (some ⟨g6, 0, none⟩)), (7, .int .i64 (x_ : Int))]) (fun x_ w1 => Ext w7 w1 ∧ x_ ≤ 8) (fun x_ => 8 - x_) (0) (Sub.cons (rfl) (Sub.cons (rfl) (Sub.cons (rfl) (Sub.cons (rfl) (Sub.nil))))) ?start1 ?_
      case start1 =>
        show Ext w7 _ ∧ (0) ≤ 8
        exact ⟨Ext.refl _, by omega⟩
      rintro i w1 hI_
      replace hI_ : Ext w7 w1 ∧ i ≤ 8 := hI_
      obtain ⟨hX1, hi⟩ := hI_
      refine C.weaken (l' := [(0, .int .i64 (k : Int)), (5, .slice (some ⟨g13, 0, none⟩) 3 3), (6, .pointer (some ⟨g6, 0, none⟩)), (7, .int .i64 (i : Int))]) (Sub.cons (rfl) (Sub.cons (rfl) (Sub.cons (rfl) (Sub.cons (rfl) (Sub.nil))))) ?_
      refine C.seq ?_
      refine C.seq ?_
      refine C.region ?_
      refine W.move rfl rfl ?_
      refine W.lssI rfl rfl rfl ?_
      refine W.nil ?_
      refine At.thenCode ?_
      first | refine C.condD rfl (fun c34 => ?_) (fun c34 => ?_) | refine C.cond rfl (fun c34 => ?_) (fun c34 => ?_)
      · have hb : (shaV m).getD i 0 = q.getD i 0 := by
          simp only [List.getD]
          rw [← hmq, List.getElem?_take, if_pos (by omega)]
        have hb1 : ((shaV m).map byteV)[i]? = some (byteV ((shaV m).getD i 0)) := by
          rw [List.getElem?_map]
          simp [List.getD, List.getElem?_eq_getElem (show i < (shaV m).length by omega)]
        have hb2 : (q.map byteV)[i]? = some (byteV (q.getD i 0)) := by
          rw [List.getElem?_map]
          simp [List.getD, List.getElem?_eq_getElem (show i < q.length by omega)]
        refine C.skip ?_
        refine At.thenCode ?_
        refine C.seq ?_
        refine C.block ?_
        refine C.seq ?_
        refine C.regionAny 11 ((fun v w => v = .int .i64 (i : Int)) :: (fun v w => v = .pointer (some ⟨g6, i, none⟩)) :: (fun v w => v = byteV ((shaV m).getD i 0)) :: (fun v w => v = .slice (some ⟨g13, 0, none⟩) 3 3) :: (fun v w => v = .int .i64 (k : Int)) :: (fun v w => ∃ ad, v = .pointer (some ad) ∧ Cells w ad (vs.drop k)) :: (fun v w => v = .slice a 8 c') :: (fun v w => v = .int .i64 (i : Int)) :: (fun v w => ∃ ad, v = .pointer (some ad) ∧ Cells w ad ((q.map byteV).drop i)) :: (fun v w => v = byteV (q.getD i 0)) :: (fun v w => v = .bool false) :: []) [(0, .int .i64 (k : Int)), (5, .slice (some ⟨g13, 0, none⟩) 3 3), (6, .pointer (some ⟨g6, 0, none⟩)), (7, .int .i64 (i : Int))] [] (Sub.cons (rfl) (Sub.cons (rfl) (Sub.cons (rfl) (Sub.cons (rfl) (Sub.nil))))) (Sub.nil) (Sub.cons (rfl) (Sub.cons (rfl) (Sub.cons (rfl) (Sub.cons (rfl) (Sub.nil))))) (by kernel_rfl) rfl rfl rfl (And.intro (fun _ _ _ h _ => h) (And.intro (fun _ _ _ h _ => h) (And.intro (fun _ _ _ h _ => h) (And.intro (fun _ _ _ h _ => h) (And.intro (fun _ _ _ h _ => h) (And.intro (fun _ _ _ ⟨ad, e, h⟩ g => ⟨ad, e, h.chg g (fun c => c)⟩) (And.intro (fun _ _ _ h _ => h) (And.intro (fun _ _ _ h _ => h) (And.intro (fun _ _ _ ⟨ad, e, h⟩ g => ⟨ad, e, h.chg g (fun c => c)⟩) (And.intro (fun _ _ _ h _ => h) (And.intro (fun _ _ _ h _ => h) (trivial)))))))))))) ?_ ?_
        · refine And.intro ?_ ?_
          · intro L_ w10' hX_ hs_ hf_ hd_
            refine W.step [(7, _)] (Sub.cons (hs_ _ _ rfl) (Sub.refl _)) ?_
            refine W.move rfl rfl ?_
            refine W.nil ?_
            exact At.step (Ext.refl _) rfl
          refine And.intro ?_ ?_
          · intro L_ w10' hX_ hs_ hf_ hd_
            obtain ⟨v0, e0, r0⟩ := hd_ 0 rfl
            obtain rfl : (.int .i64 (i : Int) : Value) = v0 := Eq.symm r0
            refine W.step [(6, _), (37, _)] (Sub.cons (hs_ _ _ rfl) (Sub.cons (e0 _ rfl) (Sub.refl _))) ?_
            refine W.indexA1 Words.X8 Try.underlying25 rfl rfl (by first | omega | decide) rfl ?_
            refine W.nil ?_
            exact At.step (Ext.refl _) rfl
          refine And.intro ?_ ?_
          · intro L_ w10' hX_ hs_ hf_ hd_
            obtain ⟨v1, e1, r1⟩ := hd_ 1 rfl
            obtain rfl : (.pointer (some ⟨g6, i, none⟩) : Value) = v1 := Eq.symm r1
            refine W.step [(38, _)] (Sub.cons (e1 _ rfl) (Sub.refl _)) ?_
            refine W.loadB rfl Try.underlying5 rfl ((hB6.ext hX1).ext hX_) hb1 rfl ?_
            refine W.nil ?_
            exact At.step (Ext.refl _) rfl
          refine And.intro ?_ ?_
          · intro L_ w10' hX_ hs_ hf_ hd_
            refine W.step [(5, _)] (Sub.cons (hs_ _ _ rfl) (Sub.refl _)) ?_
            refine W.move rfl rfl ?_
            refine W.nil ?_
            exact At.step (Ext.refl _) rfl
          refine And.intro ?_ ?_
          · intro L_ w10' hX_ hs_ hf_ hd_
            refine W.step [(0, _)] (Sub.cons (hs_ _ _ rfl) (Sub.refl _)) ?_
            refine W.move rfl rfl ?_
            refine W.nil ?_
            exact At.step (Ext.refl _) rfl
          refine And.intro ?_ ?_
          · intro L_ w10' hX_ hs_ hf_ hd_
            obtain ⟨v3, e3, r3⟩ := hd_ 3 rfl
            obtain rfl : (.slice (some ⟨g13, 0, none⟩) 3 3 : Value) = v3 := Eq.symm r3
            obtain ⟨v4, e4, r4⟩ := hd_ 4 rfl
            obtain rfl : (.int .i64 (k : Int) : Value) = v4 := Eq.symm r4
            refine W.step [(40, _), (41, _)] (Sub.cons (e3 _ rfl) (Sub.cons (e4 _ rfl) (Sub.refl _))) ?_
            refine W.indexS EB Try.underlying29 rfl ((hvs3.ext hX1).ext hX_) rfl (by omega) rfl ?_
            intro ad42 _ _ hc42
            rw [Int.toNat_natCast, Nat.mul_one] at hc42
            refine W.nil ?_
            exact At.step (Ext.refl _) ⟨_, rfl, hc42⟩
          refine And.intro ?_ ?_
          · intro L_ w10' hX_ hs_ hf_ hd_
            obtain ⟨v5, e5, r5⟩ := hd_ 5 rfl
            obtain ⟨ad5, rfl, hc5⟩ := r5
            refine W.step [(42, _)] (Sub.cons (e5 _ rfl) (Sub.refl _)) ?_
            refine W.load rfl Try.underlying23 rfl (by have := hc5 0 _ (by rw [List.getElem?_drop, Nat.add_zero]; exact hu); rwa [add_zero'] at this) rfl ?_
            refine W.nil ?_
            exact At.step (Ext.refl _) rfl
          refine And.intro ?_ ?_
          · intro L_ w10' hX_ hs_ hf_ hd_
            refine W.step [(7, _)] (Sub.cons (hs_ _ _ rfl) (Sub.refl _)) ?_
            refine W.move rfl rfl ?_
            refine W.nil ?_
            exact At.step (Ext.refl _) rfl
          refine And.intro ?_ ?_
          · intro L_ w10' hX_ hs_ hf_ hd_
            obtain ⟨v6, e6, r6⟩ := hd_ 6 rfl
            obtain rfl : (.slice a 8 c' : Value) = v6 := Eq.symm r6
            obtain ⟨v7, e7, r7⟩ := hd_ 7 rfl
            obtain rfl : (.int .i64 (i : Int) : Value) = v7 := Eq.symm r7
            refine W.step [(43, _), (44, _)] (Sub.cons (e6 _ rfl) (Sub.cons (e7 _ rfl) (Sub.refl _))) ?_
            have hSq8 : Sl w7 a 8 c' 1 (q.map byteV) := by have := hSq; unfold Bs at this; rw [hml.2] at this; exact this
            refine W.indexS E8 Try.underlying23 rfl ((hSq8.ext hX1).ext hX_) rfl (by omega) rfl ?_
            intro ad45 _ _ hc45
            rw [Int.toNat_natCast, Nat.mul_one] at hc45
            refine W.nil ?_
            exact At.step (Ext.refl _) ⟨_, rfl, hc45⟩
          refine And.intro ?_ ?_
          · intro L_ w10' hX_ hs_ hf_ hd_
            obtain ⟨v8, e8, r8⟩ := hd_ 8 rfl
            obtain ⟨ad8, rfl, hc8⟩ := r8
            refine W.step [(45, _)] (Sub.cons (e8 _ rfl) (Sub.refl _)) ?_
            refine W.load rfl Try.underlying5 rfl (by have := hc8 0 _ (by rw [List.getElem?_drop, Nat.add_zero]; exact hb2); rwa [add_zero'] at this) rfl ?_
            refine W.nil ?_
            exact At.step (Ext.refl _) rfl
          refine And.intro ?_ ?_
          · intro L_ w10' hX_ hs_ hf_ hd_
            obtain ⟨v2, e2, r2⟩ := hd_ 2 rfl
            obtain rfl : (byteV ((shaV m).getD i 0) : Value) = v2 := Eq.symm r2
            obtain ⟨v9, e9, r9⟩ := hd_ 9 rfl
            obtain rfl : (byteV (q.getD i 0) : Value) = v9 := Eq.symm r9
            refine W.step [(39, _), (46, _)] (Sub.cons (e2 _ rfl) (Sub.cons (e9 _ rfl) (Sub.refl _))) ?_
            refine W.neqU rfl rfl rfl ?_
            refine W.eqv (bF (by rw [hb]; simp)) ?_
            refine W.nil ?_
            exact At.step (Ext.refl _) rfl
          exact trivial
        · intro L_ w10' hX10 hs_ hv_
          obtain ⟨v10, e10, r10⟩ := hv_ 10 (by decide)
          obtain rfl : (.bool false : Value) = v10 := Eq.symm r10
          refine W.weaken (l' := [(47, _), (0, _), (5, _), (6, _), (7, _)]) (Sub.cons (e10 _ rfl) (Sub.cons (hs_ _ _ rfl) (Sub.cons (hs_ _ _ rfl) (Sub.cons (hs_ _ _ rfl) (Sub.cons (hs_ _ _ rfl) (Sub.nil)))))) ?_
          refine W.nil ?_
          refine At.thenCode ?_
          refine C.condF rfl ?_
          refine C.skip ?_
          refine At.blockNormal ?_
          refine At.thenCode ?_
          refine C.region ?_
          refine W.move rfl rfl ?_
          first | refine W.addI rfl rfl (by omega) rfl ?_ | refine W.addW rfl rfl rfl ?_
          refine W.assign rfl rfl ?_
          refine W.nil ?_
          refine At.thenRound (i + 1) (Sub.cons (rfl) (Sub.cons (rfl) (Sub.cons (rfl) (Sub.cons (look_eq rfl (by rw [show (i : Int) + 1 = ((i + 1 : Nat) : Int) by omega])) (Sub.nil))))) (show Ext w7 _ ∧ (i + 1) ≤ 8 from ?_) (show 8 - (i + 1) < 8 - i from ?_)
          · exact ⟨hX1.ext hX10, by omega⟩
          · omega
      · refine C.exit ?_
        refine At.thenExit ?_
        refine At.thenExit ?_
        refine At.blockSelf ?_
        refine At.thenCode ?_
        refine C.seq ?_
        refine C.region ?_
        refine W.assign rfl rfl ?_
        refine W.nil ?_
        refine At.thenCode ?_
        refine C.ret ?_
        refine At.ret1 Try.results4 rfl ?_
        exact ⟨rfl, Ext.below ((hXa.ext hX7).ext hX1)⟩
end Go.Proofs.Ytmnndbebnojlgaa.Law2
