/-
  No cell of these rows narrows 'for every input' (looked for: loops, veiled, ifaces, maps, wideKeys, modest, calm, conditions, laid).
  DERIVED. THE GIVEN ROWS OF THIS SEAT. 10 by the template 'for every input the law returns true; each argument reads behind the call as it read before'; 0 by the template 'total and deterministic' (their statements: YtomfnficblnngaaTotals.lean).
  GIVEN WITH THE SEED: the statements are not yours to turn. If you find one false, say at which input.
  Laid BY PROGRAM, IN A SANDBOX (cutbox-rows.mjs): the forced cells as the released guide's own fill.sh prints them over the translation 5e46a77181a2e7d3… (all of the seat's roots in one cut). By AI agents, Wed Nov 11 2026. No macro, syntax, notation, axiom, sorry.
-/
import Derived.Test.YtomfnficblnngaaChecked
import GoSem.Claim
import GoSem.ClaimJoined
import GoSem.ClaimMapViews
import Derived.JoinedTies
import Derived.KernelRfl
namespace Go.Proofs.Ytomfnficblnngaa
/- THE CELL 'sum', in the pinned program and in every row, IS THE sha256 OF THE DUMP (.gsa) THAT YtomfnficblnngaaProg.lean LOADS. Nothing in Lean hashes anything: it is a label: what it is worth is what the hold of that sum in a sandbox is worth. -/
noncomputable def Try.pinned : Pinned := { name := "ytomfnficblnngaa", sum := "5e46a77181a2e7d31a47542de6c5cb9b92e95ae532389934c44a26884f910263", checked := Try.checked }
namespace Rows
def none {H : Type} : Left H := { results := [], args := [] }

/-- 'courierbaglaw12.BeaconDraws': WHATEVER THE INPUT: true; the input reads as it did. -/
def beaconDrawsSpec : ChangeSpec := { name := "beaconDraws", fn := fun _ => fun
  | [d1, d2, d3] => { results := [.lit (.bool true)], args := [d1, d2, d3] }
  | _ => none }
def beaconDrawsRow : OpenClaim := { program := "ytomfnficblnngaa", sum := "5e46a77181a2e7d31a47542de6c5cb9b92e95ae532389934c44a26884f910263", func := "courierbag/courierbaglaw12.BeaconDraws", spec := "beaconDraws", named := ["math/bits.divideError", "math/bits.overflowError"], apart := false }
def BeaconDrawsSaid : Prop := beaconDrawsRow.holds Try.pinned (OpenSpec.ofChange beaconDrawsSpec)

/-- ITS FALSE NEIGHBOUR: 'it returns false'. Refute it at one input. -/
def beaconDrawsWrong : ChangeSpec := { name := "beaconDraws", fn := fun _ => fun
  | [d1, d2, d3] => { results := [.lit (.bool false)], args := [d1, d2, d3] }
  | _ => none }
def BeaconDrawsWrongFalsely : Prop := beaconDrawsRow.holds Try.pinned (OpenSpec.ofChange beaconDrawsWrong)

/-- 'courierbaglaw12.BeaconWords': WHATEVER THE INPUT: true; the input reads as it did. -/
def beaconWordsSpec : ChangeSpec := { name := "beaconWords", fn := fun _ => fun
  | [d1, d2, d3] => { results := [.lit (.bool true)], args := [d1, d2, d3] }
  | _ => none }
def beaconWordsRow : OpenClaim := { program := "ytomfnficblnngaa", sum := "5e46a77181a2e7d31a47542de6c5cb9b92e95ae532389934c44a26884f910263", func := "courierbag/courierbaglaw12.BeaconWords", spec := "beaconWords", named := ["math/bits.divideError", "math/bits.overflowError"], apart := false }
def BeaconWordsSaid : Prop := beaconWordsRow.holds Try.pinned (OpenSpec.ofChange beaconWordsSpec)

/-- ITS FALSE NEIGHBOUR: 'it returns false'. Refute it at one input. -/
def beaconWordsWrong : ChangeSpec := { name := "beaconWords", fn := fun _ => fun
  | [d1, d2, d3] => { results := [.lit (.bool false)], args := [d1, d2, d3] }
  | _ => none }
def BeaconWordsWrongFalsely : Prop := beaconWordsRow.holds Try.pinned (OpenSpec.ofChange beaconWordsWrong)

/-- 'courierbaglaw12.BeaconPowers': WHATEVER THE INPUT: true; the input reads as it did. -/
def beaconPowersSpec : ChangeSpec := { name := "beaconPowers", fn := fun _ => fun
  | [d1, d2, d3] => { results := [.lit (.bool true)], args := [d1, d2, d3] }
  | _ => none }
def beaconPowersRow : OpenClaim := { program := "ytomfnficblnngaa", sum := "5e46a77181a2e7d31a47542de6c5cb9b92e95ae532389934c44a26884f910263", func := "courierbag/courierbaglaw12.BeaconPowers", spec := "beaconPowers", named := ["math/bits.divideError", "math/bits.overflowError"], apart := false }
def BeaconPowersSaid : Prop := beaconPowersRow.holds Try.pinned (OpenSpec.ofChange beaconPowersSpec)

/-- ITS FALSE NEIGHBOUR: 'it returns false'. Refute it at one input. -/
def beaconPowersWrong : ChangeSpec := { name := "beaconPowers", fn := fun _ => fun
  | [d1, d2, d3] => { results := [.lit (.bool false)], args := [d1, d2, d3] }
  | _ => none }
def BeaconPowersWrongFalsely : Prop := beaconPowersRow.holds Try.pinned (OpenSpec.ofChange beaconPowersWrong)

/-- 'courierbaglaw12.BeaconApart': WHATEVER THE INPUT: true; the input reads as it did. -/
def beaconApartSpec : ChangeSpec := { name := "beaconApart", fn := fun _ => fun
  | [d1, d2, d3, d4] => { results := [.lit (.bool true)], args := [d1, d2, d3, d4] }
  | _ => none }
def beaconApartRow : OpenClaim := { program := "ytomfnficblnngaa", sum := "5e46a77181a2e7d31a47542de6c5cb9b92e95ae532389934c44a26884f910263", func := "courierbag/courierbaglaw12.BeaconApart", spec := "beaconApart", named := ["math/bits.divideError", "math/bits.overflowError"], apart := false }
def BeaconApartSaid : Prop := beaconApartRow.holds Try.pinned (OpenSpec.ofChange beaconApartSpec)

/-- ITS FALSE NEIGHBOUR: 'it returns false'. Refute it at one input. -/
def beaconApartWrong : ChangeSpec := { name := "beaconApart", fn := fun _ => fun
  | [d1, d2, d3, d4] => { results := [.lit (.bool false)], args := [d1, d2, d3, d4] }
  | _ => none }
def BeaconApartWrongFalsely : Prop := beaconApartRow.holds Try.pinned (OpenSpec.ofChange beaconApartWrong)

/-- 'courierbaglaw13.PermuteOf': WHATEVER THE INPUT: true; the input reads as it did. -/
def permuteOfSpec : ChangeSpec := { name := "permuteOf", fn := fun _ => fun
  | [d1, d2] => { results := [.lit (.bool true)], args := [d1, d2] }
  | _ => none }
def permuteOfRow : OpenClaim := { program := "ytomfnficblnngaa", sum := "5e46a77181a2e7d31a47542de6c5cb9b92e95ae532389934c44a26884f910263", func := "courierbag/courierbaglaw13.PermuteOf", spec := "permuteOf", named := ["math/bits.divideError", "math/bits.overflowError"], apart := false }
def PermuteOfSaid : Prop := permuteOfRow.holds Try.pinned (OpenSpec.ofChange permuteOfSpec)

/-- ITS FALSE NEIGHBOUR: 'it returns false'. Refute it at one input. -/
def permuteOfWrong : ChangeSpec := { name := "permuteOf", fn := fun _ => fun
  | [d1, d2] => { results := [.lit (.bool false)], args := [d1, d2] }
  | _ => none }
def PermuteOfWrongFalsely : Prop := permuteOfRow.holds Try.pinned (OpenSpec.ofChange permuteOfWrong)

/-- 'courierbaglaw13.PermuteRight': WHATEVER THE INPUT: true; the input reads as it did. -/
def permuteRightSpec : ChangeSpec := { name := "permuteRight", fn := fun _ => fun
  | [d] => { results := [.lit (.bool true)], args := [d] }
  | _ => none }
def permuteRightRow : OpenClaim := { program := "ytomfnficblnngaa", sum := "5e46a77181a2e7d31a47542de6c5cb9b92e95ae532389934c44a26884f910263", func := "courierbag/courierbaglaw13.PermuteRight", spec := "permuteRight", named := ["math/bits.divideError", "math/bits.overflowError"], apart := false }
def PermuteRightSaid : Prop := permuteRightRow.holds Try.pinned (OpenSpec.ofChange permuteRightSpec)

/-- ITS FALSE NEIGHBOUR: 'it returns false'. Refute it at one input. -/
def permuteRightWrong : ChangeSpec := { name := "permuteRight", fn := fun _ => fun
  | [d] => { results := [.lit (.bool false)], args := [d] }
  | _ => none }
def PermuteRightWrongFalsely : Prop := permuteRightRow.holds Try.pinned (OpenSpec.ofChange permuteRightWrong)

/-- 'courierbaglaw13.PermuteBack': WHATEVER THE INPUT: true; the input reads as it did. -/
def permuteBackSpec : ChangeSpec := { name := "permuteBack", fn := fun _ => fun
  | [d1, d2] => { results := [.lit (.bool true)], args := [d1, d2] }
  | _ => none }
def permuteBackRow : OpenClaim := { program := "ytomfnficblnngaa", sum := "5e46a77181a2e7d31a47542de6c5cb9b92e95ae532389934c44a26884f910263", func := "courierbag/courierbaglaw13.PermuteBack", spec := "permuteBack", named := ["math/bits.divideError", "math/bits.overflowError"], apart := false }
def PermuteBackSaid : Prop := permuteBackRow.holds Try.pinned (OpenSpec.ofChange permuteBackSpec)

/-- ITS FALSE NEIGHBOUR: 'it returns false'. Refute it at one input. -/
def permuteBackWrong : ChangeSpec := { name := "permuteBack", fn := fun _ => fun
  | [d1, d2] => { results := [.lit (.bool false)], args := [d1, d2] }
  | _ => none }
def PermuteBackWrongFalsely : Prop := permuteBackRow.holds Try.pinned (OpenSpec.ofChange permuteBackWrong)

/-- 'courierbaglaw13.PermuteLimits': WHATEVER THE INPUT: true; the input reads as it did. -/
def permuteLimitsSpec : ChangeSpec := { name := "permuteLimits", fn := fun _ => fun
  | [d] => { results := [.lit (.bool true)], args := [d] }
  | _ => none }
def permuteLimitsRow : OpenClaim := { program := "ytomfnficblnngaa", sum := "5e46a77181a2e7d31a47542de6c5cb9b92e95ae532389934c44a26884f910263", func := "courierbag/courierbaglaw13.PermuteLimits", spec := "permuteLimits", named := ["math/bits.divideError", "math/bits.overflowError"], apart := false }
def PermuteLimitsSaid : Prop := permuteLimitsRow.holds Try.pinned (OpenSpec.ofChange permuteLimitsSpec)

/-- ITS FALSE NEIGHBOUR: 'it returns false'. Refute it at one input. -/
def permuteLimitsWrong : ChangeSpec := { name := "permuteLimits", fn := fun _ => fun
  | [d] => { results := [.lit (.bool false)], args := [d] }
  | _ => none }
def PermuteLimitsWrongFalsely : Prop := permuteLimitsRow.holds Try.pinned (OpenSpec.ofChange permuteLimitsWrong)

/-- 'courierbaglaw13.PermuteSwaps': WHATEVER THE INPUT: true; the input reads as it did. -/
def permuteSwapsSpec : ChangeSpec := { name := "permuteSwaps", fn := fun _ => fun
  | [d1, d2] => { results := [.lit (.bool true)], args := [d1, d2] }
  | _ => none }
def permuteSwapsRow : OpenClaim := { program := "ytomfnficblnngaa", sum := "5e46a77181a2e7d31a47542de6c5cb9b92e95ae532389934c44a26884f910263", func := "courierbag/courierbaglaw13.PermuteSwaps", spec := "permuteSwaps", named := ["math/bits.divideError", "math/bits.overflowError"], apart := false }
def PermuteSwapsSaid : Prop := permuteSwapsRow.holds Try.pinned (OpenSpec.ofChange permuteSwapsSpec)

/-- ITS FALSE NEIGHBOUR: 'it returns false'. Refute it at one input. -/
def permuteSwapsWrong : ChangeSpec := { name := "permuteSwaps", fn := fun _ => fun
  | [d1, d2] => { results := [.lit (.bool false)], args := [d1, d2] }
  | _ => none }
def PermuteSwapsWrongFalsely : Prop := permuteSwapsRow.holds Try.pinned (OpenSpec.ofChange permuteSwapsWrong)

/-- 'courierbaglaw15.SetsTell': WHATEVER THE INPUT: true; the input reads as it did. -/
def setsTellSpec : ChangeSpec := { name := "setsTell", fn := fun _ => fun
  | [d1, d2, d3, d4] => { results := [.lit (.bool true)], args := [d1, d2, d3, d4] }
  | _ => none }
def setsTellRow : OpenClaim := { program := "ytomfnficblnngaa", sum := "5e46a77181a2e7d31a47542de6c5cb9b92e95ae532389934c44a26884f910263", func := "courierbag/courierbaglaw15.SetsTell", spec := "setsTell", apart := false }
def SetsTellSaid : Prop := setsTellRow.holds Try.pinned (OpenSpec.ofChange setsTellSpec)

/-- ITS FALSE NEIGHBOUR: 'it returns false'. Refute it at one input. -/
def setsTellWrong : ChangeSpec := { name := "setsTell", fn := fun _ => fun
  | [d1, d2, d3, d4] => { results := [.lit (.bool false)], args := [d1, d2, d3, d4] }
  | _ => none }
def SetsTellWrongFalsely : Prop := setsTellRow.holds Try.pinned (OpenSpec.ofChange setsTellWrong)

/- THE SECOND FORM. 'bulk': how many values and letters a reading holds, each counted each time it is reached (what is shared counts as often as it is met; a slice's spare places count too). A statement '..UptoSaid' is the law's where the arguments, and the package variables that the reading takes, are together of bulk at most 1048576: NARROWER than '..Said'. Prove '..Said' where nothing that the law and all that it calls make is longer than what came in: it says more and counts as full. Else prove '..UptoSaid'. A law counts once. -/
mutual
def uptoBulk {H : Type} : DataW H → Nat
  | .lit (.string bytes) => bytes.length + 1
  | .lit _ => 1
  | .nil => 1
  | .ptr d => uptoBulk d + 1
  | .slice elems spare => uptoBulkAll elems + uptoBulkAll spare + 1
  | .agg parts => uptoBulkAll parts + 1
  | .iface _ d => uptoBulk d + 1
  | .map entries => uptoBulkEntries entries + 1
  | .held _ => 1
def uptoBulkAll {H : Type} : List (DataW H) → Nat
  | [] => 0
  | d :: r => uptoBulk d + uptoBulkAll r
def uptoBulkEntries {H : Type} : List (Lit × DataW H) → Nat
  | [] => 0
  | x :: r => uptoBulkEntry x + uptoBulkEntries r
def uptoBulkEntry {H : Type} : Lit × DataW H → Nat
  | (.string bytes, d) => bytes.length + uptoBulk d + 1
  | (_, d) => uptoBulk d + 1
 end
def uptoSmall : (H : Type) → List (DataW H) → Bool := fun _ ds => decide (uptoBulkAll ds ≤ 1048576)
def OpenSpec.upto (s : _root_.Go.ChangeSpec) : _root_.Go.OpenSpec := { _root_.Go.OpenSpec.ofChange s with cond := some uptoSmall }

/-- 'courierbaglaw12.BeaconDraws', WHERE WHAT IT READS IS OF BULK AT MOST 1048576: true; the input reads as it did. -/
def beaconDrawsUptoRow : OpenClaim := { program := "ytomfnficblnngaa", sum := "5e46a77181a2e7d31a47542de6c5cb9b92e95ae532389934c44a26884f910263", func := "courierbag/courierbaglaw12.BeaconDraws", spec := "beaconDraws", named := ["math/bits.divideError", "math/bits.overflowError"], apart := false, narrowed := true }
def BeaconDrawsUptoSaid : Prop := beaconDrawsUptoRow.holds Try.pinned (OpenSpec.upto beaconDrawsSpec)

/-- 'courierbaglaw12.BeaconWords', WHERE WHAT IT READS IS OF BULK AT MOST 1048576: true; the input reads as it did. -/
def beaconWordsUptoRow : OpenClaim := { program := "ytomfnficblnngaa", sum := "5e46a77181a2e7d31a47542de6c5cb9b92e95ae532389934c44a26884f910263", func := "courierbag/courierbaglaw12.BeaconWords", spec := "beaconWords", named := ["math/bits.divideError", "math/bits.overflowError"], apart := false, narrowed := true }
def BeaconWordsUptoSaid : Prop := beaconWordsUptoRow.holds Try.pinned (OpenSpec.upto beaconWordsSpec)

/-- 'courierbaglaw12.BeaconPowers', WHERE WHAT IT READS IS OF BULK AT MOST 1048576: true; the input reads as it did. -/
def beaconPowersUptoRow : OpenClaim := { program := "ytomfnficblnngaa", sum := "5e46a77181a2e7d31a47542de6c5cb9b92e95ae532389934c44a26884f910263", func := "courierbag/courierbaglaw12.BeaconPowers", spec := "beaconPowers", named := ["math/bits.divideError", "math/bits.overflowError"], apart := false, narrowed := true }
def BeaconPowersUptoSaid : Prop := beaconPowersUptoRow.holds Try.pinned (OpenSpec.upto beaconPowersSpec)

/-- 'courierbaglaw12.BeaconApart', WHERE WHAT IT READS IS OF BULK AT MOST 1048576: true; the input reads as it did. -/
def beaconApartUptoRow : OpenClaim := { program := "ytomfnficblnngaa", sum := "5e46a77181a2e7d31a47542de6c5cb9b92e95ae532389934c44a26884f910263", func := "courierbag/courierbaglaw12.BeaconApart", spec := "beaconApart", named := ["math/bits.divideError", "math/bits.overflowError"], apart := false, narrowed := true }
def BeaconApartUptoSaid : Prop := beaconApartUptoRow.holds Try.pinned (OpenSpec.upto beaconApartSpec)

/-- 'courierbaglaw13.PermuteOf', WHERE WHAT IT READS IS OF BULK AT MOST 1048576: true; the input reads as it did. -/
def permuteOfUptoRow : OpenClaim := { program := "ytomfnficblnngaa", sum := "5e46a77181a2e7d31a47542de6c5cb9b92e95ae532389934c44a26884f910263", func := "courierbag/courierbaglaw13.PermuteOf", spec := "permuteOf", named := ["math/bits.divideError", "math/bits.overflowError"], apart := false, narrowed := true }
def PermuteOfUptoSaid : Prop := permuteOfUptoRow.holds Try.pinned (OpenSpec.upto permuteOfSpec)

/-- 'courierbaglaw13.PermuteRight', WHERE WHAT IT READS IS OF BULK AT MOST 1048576: true; the input reads as it did. -/
def permuteRightUptoRow : OpenClaim := { program := "ytomfnficblnngaa", sum := "5e46a77181a2e7d31a47542de6c5cb9b92e95ae532389934c44a26884f910263", func := "courierbag/courierbaglaw13.PermuteRight", spec := "permuteRight", named := ["math/bits.divideError", "math/bits.overflowError"], apart := false, narrowed := true }
def PermuteRightUptoSaid : Prop := permuteRightUptoRow.holds Try.pinned (OpenSpec.upto permuteRightSpec)

/-- 'courierbaglaw13.PermuteBack', WHERE WHAT IT READS IS OF BULK AT MOST 1048576: true; the input reads as it did. -/
def permuteBackUptoRow : OpenClaim := { program := "ytomfnficblnngaa", sum := "5e46a77181a2e7d31a47542de6c5cb9b92e95ae532389934c44a26884f910263", func := "courierbag/courierbaglaw13.PermuteBack", spec := "permuteBack", named := ["math/bits.divideError", "math/bits.overflowError"], apart := false, narrowed := true }
def PermuteBackUptoSaid : Prop := permuteBackUptoRow.holds Try.pinned (OpenSpec.upto permuteBackSpec)

/-- 'courierbaglaw13.PermuteLimits', WHERE WHAT IT READS IS OF BULK AT MOST 1048576: true; the input reads as it did. -/
def permuteLimitsUptoRow : OpenClaim := { program := "ytomfnficblnngaa", sum := "5e46a77181a2e7d31a47542de6c5cb9b92e95ae532389934c44a26884f910263", func := "courierbag/courierbaglaw13.PermuteLimits", spec := "permuteLimits", named := ["math/bits.divideError", "math/bits.overflowError"], apart := false, narrowed := true }
def PermuteLimitsUptoSaid : Prop := permuteLimitsUptoRow.holds Try.pinned (OpenSpec.upto permuteLimitsSpec)

/-- 'courierbaglaw13.PermuteSwaps', WHERE WHAT IT READS IS OF BULK AT MOST 1048576: true; the input reads as it did. -/
def permuteSwapsUptoRow : OpenClaim := { program := "ytomfnficblnngaa", sum := "5e46a77181a2e7d31a47542de6c5cb9b92e95ae532389934c44a26884f910263", func := "courierbag/courierbaglaw13.PermuteSwaps", spec := "permuteSwaps", named := ["math/bits.divideError", "math/bits.overflowError"], apart := false, narrowed := true }
def PermuteSwapsUptoSaid : Prop := permuteSwapsUptoRow.holds Try.pinned (OpenSpec.upto permuteSwapsSpec)

/-- 'courierbaglaw15.SetsTell', WHERE WHAT IT READS IS OF BULK AT MOST 1048576: true; the input reads as it did. -/
def setsTellUptoRow : OpenClaim := { program := "ytomfnficblnngaa", sum := "5e46a77181a2e7d31a47542de6c5cb9b92e95ae532389934c44a26884f910263", func := "courierbag/courierbaglaw15.SetsTell", spec := "setsTell", apart := false, narrowed := true }
def SetsTellUptoSaid : Prop := setsTellUptoRow.holds Try.pinned (OpenSpec.upto setsTellSpec)

end Rows
end Go.Proofs.Ytomfnficblnngaa
