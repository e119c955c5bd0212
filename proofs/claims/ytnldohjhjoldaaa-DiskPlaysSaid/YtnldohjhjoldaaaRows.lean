/-
  No cell of these rows narrows 'for every input' (looked for: loops, veiled, ifaces, maps, wideKeys, modest, calm, conditions, laid).
  DERIVED. THE GIVEN ROWS OF THIS SEAT. 8 by the template 'for every input the law returns true; each argument reads behind the call as it read before'; 0 by the template 'total and deterministic' (their statements: YtnldohjhjoldaaaTotals.lean).
  GIVEN WITH THE SEED: the statements are not yours to turn. If you find one false, say at which input.
  Laid BY PROGRAM, IN A SANDBOX (cutbox-rows.mjs): the forced cells as the released guide's own fill.sh prints them over the translation fc28a9bf52e57f83… (all of the seat's roots in one cut). By AI agents, Wed Nov 11 2026. No macro, syntax, notation, axiom, sorry.
-/
import Derived.Test.YtnldohjhjoldaaaChecked
import GoSem.Claim
import GoSem.ClaimJoined
import GoSem.ClaimMapViews
import Derived.JoinedTies
import Derived.KernelRfl
namespace Go.Proofs.Ytnldohjhjoldaaa
/- THE CELL 'sum', in the pinned program and in every row, IS THE sha256 OF THE DUMP (.gsa) THAT YtnldohjhjoldaaaProg.lean LOADS. Nothing in Lean hashes anything: it is a label: what it is worth is what the hold of that sum in a sandbox is worth. -/
noncomputable def Try.pinned : Pinned := { name := "ytnldohjhjoldaaa", sum := "fc28a9bf52e57f839e6f76272740a747ebde16da9a9cd6429f3eed20b2c48fb3", checked := Try.checked }
namespace Rows
def none {H : Type} : Left H := { results := [], args := [] }

/-- 'courierbaglaw22.DiskFails': WHATEVER THE INPUT: true; the input reads as it did. -/
def diskFailsSpec : ChangeSpec := { name := "diskFails", fn := fun _ => fun
  | [d1, d2] => { results := [.lit (.bool true)], args := [d1, d2] }
  | _ => none }
def diskFailsRow : OpenClaim := { program := "ytnldohjhjoldaaa", sum := "fc28a9bf52e57f839e6f76272740a747ebde16da9a9cd6429f3eed20b2c48fb3", func := "courierbag/courierbaglaw22.DiskFails", spec := "diskFails", apart := false }
def DiskFailsSaid : Prop := diskFailsRow.holds Try.pinned (OpenSpec.ofChange diskFailsSpec)

/-- ITS FALSE NEIGHBOUR: 'it returns false'. Refute it at one input. -/
def diskFailsWrong : ChangeSpec := { name := "diskFails", fn := fun _ => fun
  | [d1, d2] => { results := [.lit (.bool false)], args := [d1, d2] }
  | _ => none }
def DiskFailsWrongFalsely : Prop := diskFailsRow.holds Try.pinned (OpenSpec.ofChange diskFailsWrong)

/-- 'courierbaglaw22.DiskSynced': WHATEVER THE INPUT: true; the input reads as it did. -/
def diskSyncedSpec : ChangeSpec := { name := "diskSynced", fn := fun _ => fun
  | [d1, d2, d3] => { results := [.lit (.bool true)], args := [d1, d2, d3] }
  | _ => none }
def diskSyncedRow : OpenClaim := { program := "ytnldohjhjoldaaa", sum := "fc28a9bf52e57f839e6f76272740a747ebde16da9a9cd6429f3eed20b2c48fb3", func := "courierbag/courierbaglaw22.DiskSynced", spec := "diskSynced", apart := false }
def DiskSyncedSaid : Prop := diskSyncedRow.holds Try.pinned (OpenSpec.ofChange diskSyncedSpec)

/-- ITS FALSE NEIGHBOUR: 'it returns false'. Refute it at one input. -/
def diskSyncedWrong : ChangeSpec := { name := "diskSynced", fn := fun _ => fun
  | [d1, d2, d3] => { results := [.lit (.bool false)], args := [d1, d2, d3] }
  | _ => none }
def DiskSyncedWrongFalsely : Prop := diskSyncedRow.holds Try.pinned (OpenSpec.ofChange diskSyncedWrong)

/-- 'courierbaglaw22.DiskPlays': WHATEVER THE INPUT: true; the input reads as it did. -/
def diskPlaysSpec : ChangeSpec := { name := "diskPlays", fn := fun _ => fun
  | [d1, d2] => { results := [.lit (.bool true)], args := [d1, d2] }
  | _ => none }
def diskPlaysRow : OpenClaim := { program := "ytnldohjhjoldaaa", sum := "fc28a9bf52e57f839e6f76272740a747ebde16da9a9cd6429f3eed20b2c48fb3", func := "courierbag/courierbaglaw22.DiskPlays", spec := "diskPlays", apart := false }
def DiskPlaysSaid : Prop := diskPlaysRow.holds Try.pinned (OpenSpec.ofChange diskPlaysSpec)

/-- ITS FALSE NEIGHBOUR: 'it returns false'. Refute it at one input. -/
def diskPlaysWrong : ChangeSpec := { name := "diskPlays", fn := fun _ => fun
  | [d1, d2] => { results := [.lit (.bool false)], args := [d1, d2] }
  | _ => none }
def DiskPlaysWrongFalsely : Prop := diskPlaysRow.holds Try.pinned (OpenSpec.ofChange diskPlaysWrong)

/-- 'courierbaglaw15.SetsRoots': WHATEVER THE INPUT: true; the input reads as it did. -/
def setsRootsSpec : ChangeSpec := { name := "setsRoots", fn := fun _ => fun
  | [d] => { results := [.lit (.bool true)], args := [d] }
  | _ => none }
def setsRootsRow : OpenClaim := { program := "ytnldohjhjoldaaa", sum := "fc28a9bf52e57f839e6f76272740a747ebde16da9a9cd6429f3eed20b2c48fb3", func := "courierbag/courierbaglaw15.SetsRoots", spec := "setsRoots", apart := false }
def SetsRootsSaid : Prop := setsRootsRow.holds Try.pinned (OpenSpec.ofChange setsRootsSpec)

/-- ITS FALSE NEIGHBOUR: 'it returns false'. Refute it at one input. -/
def setsRootsWrong : ChangeSpec := { name := "setsRoots", fn := fun _ => fun
  | [d] => { results := [.lit (.bool false)], args := [d] }
  | _ => none }
def SetsRootsWrongFalsely : Prop := setsRootsRow.holds Try.pinned (OpenSpec.ofChange setsRootsWrong)

/-- 'courierbaglaw15.SetsPairs': WHATEVER THE INPUT: true; the input reads as it did. -/
def setsPairsSpec : ChangeSpec := { name := "setsPairs", fn := fun _ => fun
  | [d1, d2, d3, d4] => { results := [.lit (.bool true)], args := [d1, d2, d3, d4] }
  | _ => none }
def setsPairsRow : OpenClaim := { program := "ytnldohjhjoldaaa", sum := "fc28a9bf52e57f839e6f76272740a747ebde16da9a9cd6429f3eed20b2c48fb3", func := "courierbag/courierbaglaw15.SetsPairs", spec := "setsPairs", apart := false }
def SetsPairsSaid : Prop := setsPairsRow.holds Try.pinned (OpenSpec.ofChange setsPairsSpec)

/-- ITS FALSE NEIGHBOUR: 'it returns false'. Refute it at one input. -/
def setsPairsWrong : ChangeSpec := { name := "setsPairs", fn := fun _ => fun
  | [d1, d2, d3, d4] => { results := [.lit (.bool false)], args := [d1, d2, d3, d4] }
  | _ => none }
def SetsPairsWrongFalsely : Prop := setsPairsRow.holds Try.pinned (OpenSpec.ofChange setsPairsWrong)

/-- 'courierbaglaw15.SetsAll': WHATEVER THE INPUT: true; the input reads as it did. -/
def setsAllSpec : ChangeSpec := { name := "setsAll", fn := fun _ => fun
  | [d] => { results := [.lit (.bool true)], args := [d] }
  | _ => none }
def setsAllRow : OpenClaim := { program := "ytnldohjhjoldaaa", sum := "fc28a9bf52e57f839e6f76272740a747ebde16da9a9cd6429f3eed20b2c48fb3", func := "courierbag/courierbaglaw15.SetsAll", spec := "setsAll", apart := false }
def SetsAllSaid : Prop := setsAllRow.holds Try.pinned (OpenSpec.ofChange setsAllSpec)

/-- ITS FALSE NEIGHBOUR: 'it returns false'. Refute it at one input. -/
def setsAllWrong : ChangeSpec := { name := "setsAll", fn := fun _ => fun
  | [d] => { results := [.lit (.bool false)], args := [d] }
  | _ => none }
def SetsAllWrongFalsely : Prop := setsAllRow.holds Try.pinned (OpenSpec.ofChange setsAllWrong)

/-- 'courierbaglaw15.SetsNumbers': WHATEVER THE INPUT: true; the input reads as it did. -/
def setsNumbersSpec : ChangeSpec := { name := "setsNumbers", fn := fun _ => fun
  | [d] => { results := [.lit (.bool true)], args := [d] }
  | _ => none }
def setsNumbersRow : OpenClaim := { program := "ytnldohjhjoldaaa", sum := "fc28a9bf52e57f839e6f76272740a747ebde16da9a9cd6429f3eed20b2c48fb3", func := "courierbag/courierbaglaw15.SetsNumbers", spec := "setsNumbers", apart := false }
def SetsNumbersSaid : Prop := setsNumbersRow.holds Try.pinned (OpenSpec.ofChange setsNumbersSpec)

/-- ITS FALSE NEIGHBOUR: 'it returns false'. Refute it at one input. -/
def setsNumbersWrong : ChangeSpec := { name := "setsNumbers", fn := fun _ => fun
  | [d] => { results := [.lit (.bool false)], args := [d] }
  | _ => none }
def SetsNumbersWrongFalsely : Prop := setsNumbersRow.holds Try.pinned (OpenSpec.ofChange setsNumbersWrong)

/-- 'courierbaglaw15.SetsShare': WHATEVER THE INPUT: true; the input reads as it did. -/
def setsShareSpec : ChangeSpec := { name := "setsShare", fn := fun _ => fun
  | [d1, d2, d3] => { results := [.lit (.bool true)], args := [d1, d2, d3] }
  | _ => none }
def setsShareRow : OpenClaim := { program := "ytnldohjhjoldaaa", sum := "fc28a9bf52e57f839e6f76272740a747ebde16da9a9cd6429f3eed20b2c48fb3", func := "courierbag/courierbaglaw15.SetsShare", spec := "setsShare", apart := false }
def SetsShareSaid : Prop := setsShareRow.holds Try.pinned (OpenSpec.ofChange setsShareSpec)

/-- ITS FALSE NEIGHBOUR: 'it returns false'. Refute it at one input. -/
def setsShareWrong : ChangeSpec := { name := "setsShare", fn := fun _ => fun
  | [d1, d2, d3] => { results := [.lit (.bool false)], args := [d1, d2, d3] }
  | _ => none }
def SetsShareWrongFalsely : Prop := setsShareRow.holds Try.pinned (OpenSpec.ofChange setsShareWrong)

/- THE SECOND FORM. 'bulk': how many values and letters a reading holds, each counted each time it is reached (what is shared counts as often as it is met; a slice's spare places count too). A statement '..UptoSaid' is the law's where the arguments, and the package variables that the reading takes, are together of bulk at most 1048576: NARROWER than '..Said'. Prove '..Said' where nothing that the law and all that it calls make is longer than what came in: it says more and counts as full. Else prove '..UptoSaid'. A law counts once. -/
mutual
def uptoBulk {H : Type} : DataW H → Nat
  | .lit (.string bytes) => bytes.length + 1
  | .lit _ => 1
  | .nil => 1
  | .ptr d => uptoBulk d + 1
  | .slice elems spare => uptoBulkAll elems + uptoBulkAll spare + 1
  | .agg parts => uptoBulkAll parts + 1
  | .iface _ d => uptoBulk d + 1
  | .map entries => uptoBulkEntries entries + 1
  | .held _ => 1
def uptoBulkAll {H : Type} : List (DataW H) → Nat
  | [] => 0
  | d :: r => uptoBulk d + uptoBulkAll r
def uptoBulkEntries {H : Type} : List (Lit × DataW H) → Nat
  | [] => 0
  | x :: r => uptoBulkEntry x + uptoBulkEntries r
def uptoBulkEntry {H : Type} : Lit × DataW H → Nat
  | (.string bytes, d) => bytes.length + uptoBulk d + 1
  | (_, d) => uptoBulk d + 1
 end
def uptoSmall : (H : Type) → List (DataW H) → Bool := fun _ ds => decide (uptoBulkAll ds ≤ 1048576)
def OpenSpec.upto (s : _root_.Go.ChangeSpec) : _root_.Go.OpenSpec := { _root_.Go.OpenSpec.ofChange s with cond := some uptoSmall }

/-- 'courierbaglaw22.DiskFails', WHERE WHAT IT READS IS OF BULK AT MOST 1048576: true; the input reads as it did. -/
def diskFailsUptoRow : OpenClaim := { program := "ytnldohjhjoldaaa", sum := "fc28a9bf52e57f839e6f76272740a747ebde16da9a9cd6429f3eed20b2c48fb3", func := "courierbag/courierbaglaw22.DiskFails", spec := "diskFails", apart := false, narrowed := true }
def DiskFailsUptoSaid : Prop := diskFailsUptoRow.holds Try.pinned (OpenSpec.upto diskFailsSpec)

/-- 'courierbaglaw22.DiskSynced', WHERE WHAT IT READS IS OF BULK AT MOST 1048576: true; the input reads as it did. -/
def diskSyncedUptoRow : OpenClaim := { program := "ytnldohjhjoldaaa", sum := "fc28a9bf52e57f839e6f76272740a747ebde16da9a9cd6429f3eed20b2c48fb3", func := "courierbag/courierbaglaw22.DiskSynced", spec := "diskSynced", apart := false, narrowed := true }
def DiskSyncedUptoSaid : Prop := diskSyncedUptoRow.holds Try.pinned (OpenSpec.upto diskSyncedSpec)

/-- 'courierbaglaw22.DiskPlays', WHERE WHAT IT READS IS OF BULK AT MOST 1048576: true; the input reads as it did. -/
def diskPlaysUptoRow : OpenClaim := { program := "ytnldohjhjoldaaa", sum := "fc28a9bf52e57f839e6f76272740a747ebde16da9a9cd6429f3eed20b2c48fb3", func := "courierbag/courierbaglaw22.DiskPlays", spec := "diskPlays", apart := false, narrowed := true }
def DiskPlaysUptoSaid : Prop := diskPlaysUptoRow.holds Try.pinned (OpenSpec.upto diskPlaysSpec)

/-- 'courierbaglaw15.SetsRoots', WHERE WHAT IT READS IS OF BULK AT MOST 1048576: true; the input reads as it did. -/
def setsRootsUptoRow : OpenClaim := { program := "ytnldohjhjoldaaa", sum := "fc28a9bf52e57f839e6f76272740a747ebde16da9a9cd6429f3eed20b2c48fb3", func := "courierbag/courierbaglaw15.SetsRoots", spec := "setsRoots", apart := false, narrowed := true }
def SetsRootsUptoSaid : Prop := setsRootsUptoRow.holds Try.pinned (OpenSpec.upto setsRootsSpec)

/-- 'courierbaglaw15.SetsPairs', WHERE WHAT IT READS IS OF BULK AT MOST 1048576: true; the input reads as it did. -/
def setsPairsUptoRow : OpenClaim := { program := "ytnldohjhjoldaaa", sum := "fc28a9bf52e57f839e6f76272740a747ebde16da9a9cd6429f3eed20b2c48fb3", func := "courierbag/courierbaglaw15.SetsPairs", spec := "setsPairs", apart := false, narrowed := true }
def SetsPairsUptoSaid : Prop := setsPairsUptoRow.holds Try.pinned (OpenSpec.upto setsPairsSpec)

/-- 'courierbaglaw15.SetsAll', WHERE WHAT IT READS IS OF BULK AT MOST 1048576: true; the input reads as it did. -/
def setsAllUptoRow : OpenClaim := { program := "ytnldohjhjoldaaa", sum := "fc28a9bf52e57f839e6f76272740a747ebde16da9a9cd6429f3eed20b2c48fb3", func := "courierbag/courierbaglaw15.SetsAll", spec := "setsAll", apart := false, narrowed := true }
def SetsAllUptoSaid : Prop := setsAllUptoRow.holds Try.pinned (OpenSpec.upto setsAllSpec)

/-- 'courierbaglaw15.SetsNumbers', WHERE WHAT IT READS IS OF BULK AT MOST 1048576: true; the input reads as it did. -/
def setsNumbersUptoRow : OpenClaim := { program := "ytnldohjhjoldaaa", sum := "fc28a9bf52e57f839e6f76272740a747ebde16da9a9cd6429f3eed20b2c48fb3", func := "courierbag/courierbaglaw15.SetsNumbers", spec := "setsNumbers", apart := false, narrowed := true }
def SetsNumbersUptoSaid : Prop := setsNumbersUptoRow.holds Try.pinned (OpenSpec.upto setsNumbersSpec)

/-- 'courierbaglaw15.SetsShare', WHERE WHAT IT READS IS OF BULK AT MOST 1048576: true; the input reads as it did. -/
def setsShareUptoRow : OpenClaim := { program := "ytnldohjhjoldaaa", sum := "fc28a9bf52e57f839e6f76272740a747ebde16da9a9cd6429f3eed20b2c48fb3", func := "courierbag/courierbaglaw15.SetsShare", spec := "setsShare", apart := false, narrowed := true }
def SetsShareUptoSaid : Prop := setsShareUptoRow.holds Try.pinned (OpenSpec.upto setsShareSpec)

end Rows
end Go.Proofs.Ytnldohjhjoldaaa
