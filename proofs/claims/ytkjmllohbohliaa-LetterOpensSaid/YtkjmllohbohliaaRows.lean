/-
  No cell of these rows narrows 'for every input' (looked for: loops, veiled, ifaces, maps, wideKeys, modest, calm, conditions, laid).
  DERIVED. THE GIVEN ROWS OF THIS SEAT. 9 by the template 'for every input the law returns true; each argument reads behind the call as it read before'; 0 by the template 'total and deterministic' (their statements: YtkjmllohbohliaaTotals.lean).
  GIVEN WITH THE SEED: the statements are not yours to turn. If you find one false, say at which input.
  Laid BY PROGRAM, IN A SANDBOX (cutbox-rows.mjs): the forced cells as the released guide's own fill.sh prints them over the translation 76ab8bf895b2ee8d… (all of the seat's roots in one cut). By AI agents, Wed Nov 11 2026. No macro, syntax, notation, axiom, sorry.
-/
import Derived.Test.YtkjmllohbohliaaChecked
import GoSem.Claim
import GoSem.ClaimJoined
import GoSem.ClaimMapViews
import Derived.JoinedTies
import Derived.KernelRfl
namespace Go.Proofs.Ytkjmllohbohliaa
/- THE CELL 'sum', in the pinned program and in every row, IS THE sha256 OF THE DUMP (.gsa) THAT YtkjmllohbohliaaProg.lean LOADS. Nothing in Lean hashes anything: it is a label: what it is worth is what the hold of that sum in a sandbox is worth. -/
noncomputable def Try.pinned : Pinned := { name := "ytkjmllohbohliaa", sum := "76ab8bf895b2ee8d7e6430abfe55e583ea50a43e9d67233771e0c3e3acdf648f", checked := Try.checked }
namespace Rows
def none {H : Type} : Left H := { results := [], args := [] }

/-- 'courierbaglaw5.SealCloses': WHATEVER THE INPUT: true; the input reads as it did. -/
def sealClosesSpec : ChangeSpec := { name := "sealCloses", fn := fun _ => fun
  | [d1, d2, d3] => { results := [.lit (.bool true)], args := [d1, d2, d3] }
  | _ => none }
def sealClosesRow : OpenClaim := { program := "ytkjmllohbohliaa", sum := "76ab8bf895b2ee8d7e6430abfe55e583ea50a43e9d67233771e0c3e3acdf648f", func := "courierbag/courierbaglaw5.SealCloses", spec := "sealCloses", apart := false }
def SealClosesSaid : Prop := sealClosesRow.holds Try.pinned (OpenSpec.ofChange sealClosesSpec)

/-- ITS FALSE NEIGHBOUR: 'it returns false'. Refute it at one input. -/
def sealClosesWrong : ChangeSpec := { name := "sealCloses", fn := fun _ => fun
  | [d1, d2, d3] => { results := [.lit (.bool false)], args := [d1, d2, d3] }
  | _ => none }
def SealClosesWrongFalsely : Prop := sealClosesRow.holds Try.pinned (OpenSpec.ofChange sealClosesWrong)

/-- 'courierbaglaw5.SealOpens': WHATEVER THE INPUT: true; the input reads as it did. -/
def sealOpensSpec : ChangeSpec := { name := "sealOpens", fn := fun _ => fun
  | [d1, d2, d3] => { results := [.lit (.bool true)], args := [d1, d2, d3] }
  | _ => none }
def sealOpensRow : OpenClaim := { program := "ytkjmllohbohliaa", sum := "76ab8bf895b2ee8d7e6430abfe55e583ea50a43e9d67233771e0c3e3acdf648f", func := "courierbag/courierbaglaw5.SealOpens", spec := "sealOpens", apart := false }
def SealOpensSaid : Prop := sealOpensRow.holds Try.pinned (OpenSpec.ofChange sealOpensSpec)

/-- ITS FALSE NEIGHBOUR: 'it returns false'. Refute it at one input. -/
def sealOpensWrong : ChangeSpec := { name := "sealOpens", fn := fun _ => fun
  | [d1, d2, d3] => { results := [.lit (.bool false)], args := [d1, d2, d3] }
  | _ => none }
def SealOpensWrongFalsely : Prop := sealOpensRow.holds Try.pinned (OpenSpec.ofChange sealOpensWrong)

/-- 'courierbaglaw5.SealTurned': WHATEVER THE INPUT: true; the input reads as it did. -/
def sealTurnedSpec : ChangeSpec := { name := "sealTurned", fn := fun _ => fun
  | [d1, d2, d3, d4, d5] => { results := [.lit (.bool true)], args := [d1, d2, d3, d4, d5] }
  | _ => none }
def sealTurnedRow : OpenClaim := { program := "ytkjmllohbohliaa", sum := "76ab8bf895b2ee8d7e6430abfe55e583ea50a43e9d67233771e0c3e3acdf648f", func := "courierbag/courierbaglaw5.SealTurned", spec := "sealTurned", apart := false }
def SealTurnedSaid : Prop := sealTurnedRow.holds Try.pinned (OpenSpec.ofChange sealTurnedSpec)

/-- ITS FALSE NEIGHBOUR: 'it returns false'. Refute it at one input. -/
def sealTurnedWrong : ChangeSpec := { name := "sealTurned", fn := fun _ => fun
  | [d1, d2, d3, d4, d5] => { results := [.lit (.bool false)], args := [d1, d2, d3, d4, d5] }
  | _ => none }
def SealTurnedWrongFalsely : Prop := sealTurnedRow.holds Try.pinned (OpenSpec.ofChange sealTurnedWrong)

/-- 'courierbaglaw17.LetterAlike': WHATEVER THE INPUT: true; the input reads as it did. -/
def letterAlikeSpec : ChangeSpec := { name := "letterAlike", fn := fun _ => fun
  | [d1, d2, d3, d4, d5] => { results := [.lit (.bool true)], args := [d1, d2, d3, d4, d5] }
  | _ => none }
def letterAlikeRow : OpenClaim := { program := "ytkjmllohbohliaa", sum := "76ab8bf895b2ee8d7e6430abfe55e583ea50a43e9d67233771e0c3e3acdf648f", func := "courierbag/courierbaglaw17.LetterAlike", spec := "letterAlike", apart := false }
def LetterAlikeSaid : Prop := letterAlikeRow.holds Try.pinned (OpenSpec.ofChange letterAlikeSpec)

/-- ITS FALSE NEIGHBOUR: 'it returns false'. Refute it at one input. -/
def letterAlikeWrong : ChangeSpec := { name := "letterAlike", fn := fun _ => fun
  | [d1, d2, d3, d4, d5] => { results := [.lit (.bool false)], args := [d1, d2, d3, d4, d5] }
  | _ => none }
def LetterAlikeWrongFalsely : Prop := letterAlikeRow.holds Try.pinned (OpenSpec.ofChange letterAlikeWrong)

/-- 'courierbaglaw17.LetterEnvelopes': WHATEVER THE INPUT: true; the input reads as it did. -/
def letterEnvelopesSpec : ChangeSpec := { name := "letterEnvelopes", fn := fun _ => fun
  | [d1, d2, d3] => { results := [.lit (.bool true)], args := [d1, d2, d3] }
  | _ => none }
def letterEnvelopesRow : OpenClaim := { program := "ytkjmllohbohliaa", sum := "76ab8bf895b2ee8d7e6430abfe55e583ea50a43e9d67233771e0c3e3acdf648f", func := "courierbag/courierbaglaw17.LetterEnvelopes", spec := "letterEnvelopes", apart := false }
def LetterEnvelopesSaid : Prop := letterEnvelopesRow.holds Try.pinned (OpenSpec.ofChange letterEnvelopesSpec)

/-- ITS FALSE NEIGHBOUR: 'it returns false'. Refute it at one input. -/
def letterEnvelopesWrong : ChangeSpec := { name := "letterEnvelopes", fn := fun _ => fun
  | [d1, d2, d3] => { results := [.lit (.bool false)], args := [d1, d2, d3] }
  | _ => none }
def LetterEnvelopesWrongFalsely : Prop := letterEnvelopesRow.holds Try.pinned (OpenSpec.ofChange letterEnvelopesWrong)

/-- 'courierbaglaw17.LetterOpens': WHATEVER THE INPUT: true; the input reads as it did. -/
def letterOpensSpec : ChangeSpec := { name := "letterOpens", fn := fun _ => fun
  | [d1, d2, d3, d4, d5] => { results := [.lit (.bool true)], args := [d1, d2, d3, d4, d5] }
  | _ => none }
def letterOpensRow : OpenClaim := { program := "ytkjmllohbohliaa", sum := "76ab8bf895b2ee8d7e6430abfe55e583ea50a43e9d67233771e0c3e3acdf648f", func := "courierbag/courierbaglaw17.LetterOpens", spec := "letterOpens", apart := false }
def LetterOpensSaid : Prop := letterOpensRow.holds Try.pinned (OpenSpec.ofChange letterOpensSpec)

/-- ITS FALSE NEIGHBOUR: 'it returns false'. Refute it at one input. -/
def letterOpensWrong : ChangeSpec := { name := "letterOpens", fn := fun _ => fun
  | [d1, d2, d3, d4, d5] => { results := [.lit (.bool false)], args := [d1, d2, d3, d4, d5] }
  | _ => none }
def LetterOpensWrongFalsely : Prop := letterOpensRow.holds Try.pinned (OpenSpec.ofChange letterOpensWrong)

/-- 'courierbaglaw17.LetterTalks': WHATEVER THE INPUT: true; the input reads as it did. -/
def letterTalksSpec : ChangeSpec := { name := "letterTalks", fn := fun _ => fun
  | [d1, d2, d3, d4] => { results := [.lit (.bool true)], args := [d1, d2, d3, d4] }
  | _ => none }
def letterTalksRow : OpenClaim := { program := "ytkjmllohbohliaa", sum := "76ab8bf895b2ee8d7e6430abfe55e583ea50a43e9d67233771e0c3e3acdf648f", func := "courierbag/courierbaglaw17.LetterTalks", spec := "letterTalks", apart := false }
def LetterTalksSaid : Prop := letterTalksRow.holds Try.pinned (OpenSpec.ofChange letterTalksSpec)

/-- ITS FALSE NEIGHBOUR: 'it returns false'. Refute it at one input. -/
def letterTalksWrong : ChangeSpec := { name := "letterTalks", fn := fun _ => fun
  | [d1, d2, d3, d4] => { results := [.lit (.bool false)], args := [d1, d2, d3, d4] }
  | _ => none }
def LetterTalksWrongFalsely : Prop := letterTalksRow.holds Try.pinned (OpenSpec.ofChange letterTalksWrong)

/-- 'courierbaglaw17.LetterOthers': WHATEVER THE INPUT: true; the input reads as it did. -/
def letterOthersSpec : ChangeSpec := { name := "letterOthers", fn := fun _ => fun
  | [d1, d2, d3, d4, d5, d6] => { results := [.lit (.bool true)], args := [d1, d2, d3, d4, d5, d6] }
  | _ => none }
def letterOthersRow : OpenClaim := { program := "ytkjmllohbohliaa", sum := "76ab8bf895b2ee8d7e6430abfe55e583ea50a43e9d67233771e0c3e3acdf648f", func := "courierbag/courierbaglaw17.LetterOthers", spec := "letterOthers", apart := false }
def LetterOthersSaid : Prop := letterOthersRow.holds Try.pinned (OpenSpec.ofChange letterOthersSpec)

/-- ITS FALSE NEIGHBOUR: 'it returns false'. Refute it at one input. -/
def letterOthersWrong : ChangeSpec := { name := "letterOthers", fn := fun _ => fun
  | [d1, d2, d3, d4, d5, d6] => { results := [.lit (.bool false)], args := [d1, d2, d3, d4, d5, d6] }
  | _ => none }
def LetterOthersWrongFalsely : Prop := letterOthersRow.holds Try.pinned (OpenSpec.ofChange letterOthersWrong)

/-- 'courierbaglaw17.LetterSides': WHATEVER THE INPUT: true; the input reads as it did. -/
def letterSidesSpec : ChangeSpec := { name := "letterSides", fn := fun _ => fun
  | [d1, d2, d3, d4, d5] => { results := [.lit (.bool true)], args := [d1, d2, d3, d4, d5] }
  | _ => none }
def letterSidesRow : OpenClaim := { program := "ytkjmllohbohliaa", sum := "76ab8bf895b2ee8d7e6430abfe55e583ea50a43e9d67233771e0c3e3acdf648f", func := "courierbag/courierbaglaw17.LetterSides", spec := "letterSides", apart := false }
def LetterSidesSaid : Prop := letterSidesRow.holds Try.pinned (OpenSpec.ofChange letterSidesSpec)

/-- ITS FALSE NEIGHBOUR: 'it returns false'. Refute it at one input. -/
def letterSidesWrong : ChangeSpec := { name := "letterSides", fn := fun _ => fun
  | [d1, d2, d3, d4, d5] => { results := [.lit (.bool false)], args := [d1, d2, d3, d4, d5] }
  | _ => none }
def LetterSidesWrongFalsely : Prop := letterSidesRow.holds Try.pinned (OpenSpec.ofChange letterSidesWrong)

/- THE SECOND FORM. 'bulk': how many values and letters a reading holds, each counted each time it is reached (what is shared counts as often as it is met; a slice's spare places count too). A statement '..UptoSaid' is the law's where the arguments, and the package variables that the reading takes, are together of bulk at most 1048576: NARROWER than '..Said'. Prove '..Said' where nothing that the law and all that it calls make is longer than what came in: it says more and counts as full. Else prove '..UptoSaid'. A law counts once. -/
mutual
def uptoBulk {H : Type} : DataW H → Nat
  | .lit (.string bytes) => bytes.length + 1
  | .lit _ => 1
  | .nil => 1
  | .ptr d => uptoBulk d + 1
  | .slice elems spare => uptoBulkAll elems + uptoBulkAll spare + 1
  | .agg parts => uptoBulkAll parts + 1
  | .iface _ d => uptoBulk d + 1
  | .map entries => uptoBulkEntries entries + 1
  | .held _ => 1
def uptoBulkAll {H : Type} : List (DataW H) → Nat
  | [] => 0
  | d :: r => uptoBulk d + uptoBulkAll r
def uptoBulkEntries {H : Type} : List (Lit × DataW H) → Nat
  | [] => 0
  | x :: r => uptoBulkEntry x + uptoBulkEntries r
def uptoBulkEntry {H : Type} : Lit × DataW H → Nat
  | (.string bytes, d) => bytes.length + uptoBulk d + 1
  | (_, d) => uptoBulk d + 1
 end
def uptoSmall : (H : Type) → List (DataW H) → Bool := fun _ ds => decide (uptoBulkAll ds ≤ 1048576)
def OpenSpec.upto (s : _root_.Go.ChangeSpec) : _root_.Go.OpenSpec := { _root_.Go.OpenSpec.ofChange s with cond := some uptoSmall }

/-- 'courierbaglaw5.SealCloses', WHERE WHAT IT READS IS OF BULK AT MOST 1048576: true; the input reads as it did. -/
def sealClosesUptoRow : OpenClaim := { program := "ytkjmllohbohliaa", sum := "76ab8bf895b2ee8d7e6430abfe55e583ea50a43e9d67233771e0c3e3acdf648f", func := "courierbag/courierbaglaw5.SealCloses", spec := "sealCloses", apart := false, narrowed := true }
def SealClosesUptoSaid : Prop := sealClosesUptoRow.holds Try.pinned (OpenSpec.upto sealClosesSpec)

/-- 'courierbaglaw5.SealOpens', WHERE WHAT IT READS IS OF BULK AT MOST 1048576: true; the input reads as it did. -/
def sealOpensUptoRow : OpenClaim := { program := "ytkjmllohbohliaa", sum := "76ab8bf895b2ee8d7e6430abfe55e583ea50a43e9d67233771e0c3e3acdf648f", func := "courierbag/courierbaglaw5.SealOpens", spec := "sealOpens", apart := false, narrowed := true }
def SealOpensUptoSaid : Prop := sealOpensUptoRow.holds Try.pinned (OpenSpec.upto sealOpensSpec)

/-- 'courierbaglaw5.SealTurned', WHERE WHAT IT READS IS OF BULK AT MOST 1048576: true; the input reads as it did. -/
def sealTurnedUptoRow : OpenClaim := { program := "ytkjmllohbohliaa", sum := "76ab8bf895b2ee8d7e6430abfe55e583ea50a43e9d67233771e0c3e3acdf648f", func := "courierbag/courierbaglaw5.SealTurned", spec := "sealTurned", apart := false, narrowed := true }
def SealTurnedUptoSaid : Prop := sealTurnedUptoRow.holds Try.pinned (OpenSpec.upto sealTurnedSpec)

/-- 'courierbaglaw17.LetterAlike', WHERE WHAT IT READS IS OF BULK AT MOST 1048576: true; the input reads as it did. -/
def letterAlikeUptoRow : OpenClaim := { program := "ytkjmllohbohliaa", sum := "76ab8bf895b2ee8d7e6430abfe55e583ea50a43e9d67233771e0c3e3acdf648f", func := "courierbag/courierbaglaw17.LetterAlike", spec := "letterAlike", apart := false, narrowed := true }
def LetterAlikeUptoSaid : Prop := letterAlikeUptoRow.holds Try.pinned (OpenSpec.upto letterAlikeSpec)

/-- 'courierbaglaw17.LetterEnvelopes', WHERE WHAT IT READS IS OF BULK AT MOST 1048576: true; the input reads as it did. -/
def letterEnvelopesUptoRow : OpenClaim := { program := "ytkjmllohbohliaa", sum := "76ab8bf895b2ee8d7e6430abfe55e583ea50a43e9d67233771e0c3e3acdf648f", func := "courierbag/courierbaglaw17.LetterEnvelopes", spec := "letterEnvelopes", apart := false, narrowed := true }
def LetterEnvelopesUptoSaid : Prop := letterEnvelopesUptoRow.holds Try.pinned (OpenSpec.upto letterEnvelopesSpec)

/-- 'courierbaglaw17.LetterOpens', WHERE WHAT IT READS IS OF BULK AT MOST 1048576: true; the input reads as it did. -/
def letterOpensUptoRow : OpenClaim := { program := "ytkjmllohbohliaa", sum := "76ab8bf895b2ee8d7e6430abfe55e583ea50a43e9d67233771e0c3e3acdf648f", func := "courierbag/courierbaglaw17.LetterOpens", spec := "letterOpens", apart := false, narrowed := true }
def LetterOpensUptoSaid : Prop := letterOpensUptoRow.holds Try.pinned (OpenSpec.upto letterOpensSpec)

/-- 'courierbaglaw17.LetterTalks', WHERE WHAT IT READS IS OF BULK AT MOST 1048576: true; the input reads as it did. -/
def letterTalksUptoRow : OpenClaim := { program := "ytkjmllohbohliaa", sum := "76ab8bf895b2ee8d7e6430abfe55e583ea50a43e9d67233771e0c3e3acdf648f", func := "courierbag/courierbaglaw17.LetterTalks", spec := "letterTalks", apart := false, narrowed := true }
def LetterTalksUptoSaid : Prop := letterTalksUptoRow.holds Try.pinned (OpenSpec.upto letterTalksSpec)

/-- 'courierbaglaw17.LetterOthers', WHERE WHAT IT READS IS OF BULK AT MOST 1048576: true; the input reads as it did. -/
def letterOthersUptoRow : OpenClaim := { program := "ytkjmllohbohliaa", sum := "76ab8bf895b2ee8d7e6430abfe55e583ea50a43e9d67233771e0c3e3acdf648f", func := "courierbag/courierbaglaw17.LetterOthers", spec := "letterOthers", apart := false, narrowed := true }
def LetterOthersUptoSaid : Prop := letterOthersUptoRow.holds Try.pinned (OpenSpec.upto letterOthersSpec)

/-- 'courierbaglaw17.LetterSides', WHERE WHAT IT READS IS OF BULK AT MOST 1048576: true; the input reads as it did. -/
def letterSidesUptoRow : OpenClaim := { program := "ytkjmllohbohliaa", sum := "76ab8bf895b2ee8d7e6430abfe55e583ea50a43e9d67233771e0c3e3acdf648f", func := "courierbag/courierbaglaw17.LetterSides", spec := "letterSides", apart := false, narrowed := true }
def LetterSidesUptoSaid : Prop := letterSidesUptoRow.holds Try.pinned (OpenSpec.upto letterSidesSpec)

end Rows
end Go.Proofs.Ytkjmllohbohliaa
