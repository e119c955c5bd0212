/-
  No cell of these rows narrows 'for every input' (looked for: loops, veiled, ifaces, maps, wideKeys, modest, calm, conditions, laid).
  DERIVED. THE GIVEN ROWS OF THIS SEAT. 7 by the template 'for every input the law returns true; each argument reads behind the call as it read before'; 0 by the template 'total and deterministic' (their statements: YtpjdkobmcjgcjaaTotals.lean).
  GIVEN WITH THE SEED: the statements are not yours to turn. If you find one false, say at which input.
  Laid BY PROGRAM, IN A SANDBOX (cutbox-rows.mjs): the forced cells as the released guide's own fill.sh prints them over the translation feeabdff4714be98… (all of the seat's roots in one cut). By AI agents, Wed Nov 11 2026. No macro, syntax, notation, axiom, sorry.
-/
import Derived.Test.YtpjdkobmcjgcjaaChecked
import GoSem.Claim
import GoSem.ClaimJoined
import GoSem.ClaimMapViews
import Derived.JoinedTies
import Derived.KernelRfl
namespace Go.Proofs.Ytpjdkobmcjgcjaa
/- THE CELL 'sum', in the pinned program and in every row, IS THE sha256 OF THE DUMP (.gsa) THAT YtpjdkobmcjgcjaaProg.lean LOADS. Nothing in Lean hashes anything: it is a label: what it is worth is what the hold of that sum in a sandbox is worth. -/
noncomputable def Try.pinned : Pinned := { name := "ytpjdkobmcjgcjaa", sum := "feeabdff4714be98a659f6d78090ff199d75f139f55f0d5d30874500a2f807fc", checked := Try.checked }
namespace Rows
def none {H : Type} : Left H := { results := [], args := [] }

/-- 'courierbaglaw11.CodecNotes': WHATEVER THE INPUT: true; the input reads as it did. -/
def codecNotesSpec : ChangeSpec := { name := "codecNotes", fn := fun _ => fun
  | [d] => { results := [.lit (.bool true)], args := [d] }
  | _ => none }
def codecNotesRow : OpenClaim := { program := "ytpjdkobmcjgcjaa", sum := "feeabdff4714be98a659f6d78090ff199d75f139f55f0d5d30874500a2f807fc", func := "courierbag/courierbaglaw11.CodecNotes", spec := "codecNotes", apart := false }
def CodecNotesSaid : Prop := codecNotesRow.holds Try.pinned (OpenSpec.ofChange codecNotesSpec)

/-- ITS FALSE NEIGHBOUR: 'it returns false'. Refute it at one input. -/
def codecNotesWrong : ChangeSpec := { name := "codecNotes", fn := fun _ => fun
  | [d] => { results := [.lit (.bool false)], args := [d] }
  | _ => none }
def CodecNotesWrongFalsely : Prop := codecNotesRow.holds Try.pinned (OpenSpec.ofChange codecNotesWrong)

/-- 'courierbaglaw11.CodecSubmissions': WHATEVER THE INPUT: true; the input reads as it did. -/
def codecSubmissionsSpec : ChangeSpec := { name := "codecSubmissions", fn := fun _ => fun
  | [d] => { results := [.lit (.bool true)], args := [d] }
  | _ => none }
def codecSubmissionsRow : OpenClaim := { program := "ytpjdkobmcjgcjaa", sum := "feeabdff4714be98a659f6d78090ff199d75f139f55f0d5d30874500a2f807fc", func := "courierbag/courierbaglaw11.CodecSubmissions", spec := "codecSubmissions", apart := false }
def CodecSubmissionsSaid : Prop := codecSubmissionsRow.holds Try.pinned (OpenSpec.ofChange codecSubmissionsSpec)

/-- ITS FALSE NEIGHBOUR: 'it returns false'. Refute it at one input. -/
def codecSubmissionsWrong : ChangeSpec := { name := "codecSubmissions", fn := fun _ => fun
  | [d] => { results := [.lit (.bool false)], args := [d] }
  | _ => none }
def CodecSubmissionsWrongFalsely : Prop := codecSubmissionsRow.holds Try.pinned (OpenSpec.ofChange codecSubmissionsWrong)

/-- 'courierbaglaw11.CodecReads': WHATEVER THE INPUT: true; the input reads as it did. -/
def codecReadsSpec : ChangeSpec := { name := "codecReads", fn := fun _ => fun
  | [d] => { results := [.lit (.bool true)], args := [d] }
  | _ => none }
def codecReadsRow : OpenClaim := { program := "ytpjdkobmcjgcjaa", sum := "feeabdff4714be98a659f6d78090ff199d75f139f55f0d5d30874500a2f807fc", func := "courierbag/courierbaglaw11.CodecReads", spec := "codecReads", apart := false }
def CodecReadsSaid : Prop := codecReadsRow.holds Try.pinned (OpenSpec.ofChange codecReadsSpec)

/-- ITS FALSE NEIGHBOUR: 'it returns false'. Refute it at one input. -/
def codecReadsWrong : ChangeSpec := { name := "codecReads", fn := fun _ => fun
  | [d] => { results := [.lit (.bool false)], args := [d] }
  | _ => none }
def CodecReadsWrongFalsely : Prop := codecReadsRow.holds Try.pinned (OpenSpec.ofChange codecReadsWrong)

/-- 'courierbaglaw11.CodecEntries': WHATEVER THE INPUT: true; the input reads as it did. -/
def codecEntriesSpec : ChangeSpec := { name := "codecEntries", fn := fun _ => fun
  | [d] => { results := [.lit (.bool true)], args := [d] }
  | _ => none }
def codecEntriesRow : OpenClaim := { program := "ytpjdkobmcjgcjaa", sum := "feeabdff4714be98a659f6d78090ff199d75f139f55f0d5d30874500a2f807fc", func := "courierbag/courierbaglaw11.CodecEntries", spec := "codecEntries", unfollowed := true, recurses := true, apart := false }
def CodecEntriesSaid : Prop := codecEntriesRow.holds Try.pinned (OpenSpec.ofChange codecEntriesSpec)

/-- ITS FALSE NEIGHBOUR: 'it returns false'. Refute it at one input. -/
def codecEntriesWrong : ChangeSpec := { name := "codecEntries", fn := fun _ => fun
  | [d] => { results := [.lit (.bool false)], args := [d] }
  | _ => none }
def CodecEntriesWrongFalsely : Prop := codecEntriesRow.holds Try.pinned (OpenSpec.ofChange codecEntriesWrong)

/-- 'courierbaglaw11.CodecBatches': WHATEVER THE INPUT: true; the input reads as it did. -/
def codecBatchesSpec : ChangeSpec := { name := "codecBatches", fn := fun _ => fun
  | [d] => { results := [.lit (.bool true)], args := [d] }
  | _ => none }
def codecBatchesRow : OpenClaim := { program := "ytpjdkobmcjgcjaa", sum := "feeabdff4714be98a659f6d78090ff199d75f139f55f0d5d30874500a2f807fc", func := "courierbag/courierbaglaw11.CodecBatches", spec := "codecBatches", unfollowed := true, recurses := true, apart := false }
def CodecBatchesSaid : Prop := codecBatchesRow.holds Try.pinned (OpenSpec.ofChange codecBatchesSpec)

/-- ITS FALSE NEIGHBOUR: 'it returns false'. Refute it at one input. -/
def codecBatchesWrong : ChangeSpec := { name := "codecBatches", fn := fun _ => fun
  | [d] => { results := [.lit (.bool false)], args := [d] }
  | _ => none }
def CodecBatchesWrongFalsely : Prop := codecBatchesRow.holds Try.pinned (OpenSpec.ofChange codecBatchesWrong)

/-- 'courierbaglaw11.CodecLimits': WHATEVER THE INPUT: true; the input reads as it did. -/
def codecLimitsSpec : ChangeSpec := { name := "codecLimits", fn := fun _ => fun
  | [d1, d2] => { results := [.lit (.bool true)], args := [d1, d2] }
  | _ => none }
def codecLimitsRow : OpenClaim := { program := "ytpjdkobmcjgcjaa", sum := "feeabdff4714be98a659f6d78090ff199d75f139f55f0d5d30874500a2f807fc", func := "courierbag/courierbaglaw11.CodecLimits", spec := "codecLimits", unfollowed := true, recurses := true, apart := false }
def CodecLimitsSaid : Prop := codecLimitsRow.holds Try.pinned (OpenSpec.ofChange codecLimitsSpec)

/-- ITS FALSE NEIGHBOUR: 'it returns false'. Refute it at one input. -/
def codecLimitsWrong : ChangeSpec := { name := "codecLimits", fn := fun _ => fun
  | [d1, d2] => { results := [.lit (.bool false)], args := [d1, d2] }
  | _ => none }
def CodecLimitsWrongFalsely : Prop := codecLimitsRow.holds Try.pinned (OpenSpec.ofChange codecLimitsWrong)

/-- 'courierbaglaw11.CodecAgain': WHATEVER THE INPUT: true; the input reads as it did. -/
def codecAgainSpec : ChangeSpec := { name := "codecAgain", fn := fun _ => fun
  | [d] => { results := [.lit (.bool true)], args := [d] }
  | _ => none }
def codecAgainRow : OpenClaim := { program := "ytpjdkobmcjgcjaa", sum := "feeabdff4714be98a659f6d78090ff199d75f139f55f0d5d30874500a2f807fc", func := "courierbag/courierbaglaw11.CodecAgain", spec := "codecAgain", unfollowed := true, recurses := true, apart := false }
def CodecAgainSaid : Prop := codecAgainRow.holds Try.pinned (OpenSpec.ofChange codecAgainSpec)

/-- ITS FALSE NEIGHBOUR: 'it returns false'. Refute it at one input. -/
def codecAgainWrong : ChangeSpec := { name := "codecAgain", fn := fun _ => fun
  | [d] => { results := [.lit (.bool false)], args := [d] }
  | _ => none }
def CodecAgainWrongFalsely : Prop := codecAgainRow.holds Try.pinned (OpenSpec.ofChange codecAgainWrong)

/- THE SECOND FORM. 'bulk': how many values and letters a reading holds, each counted each time it is reached (what is shared counts as often as it is met; a slice's spare places count too). A statement '..UptoSaid' is the law's where the arguments, and the package variables that the reading takes, are together of bulk at most 1048576: NARROWER than '..Said'. Prove '..Said' where nothing that the law and all that it calls make is longer than what came in: it says more and counts as full. Else prove '..UptoSaid'. A law counts once. -/
mutual
def uptoBulk {H : Type} : DataW H → Nat
  | .lit (.string bytes) => bytes.length + 1
  | .lit _ => 1
  | .nil => 1
  | .ptr d => uptoBulk d + 1
  | .slice elems spare => uptoBulkAll elems + uptoBulkAll spare + 1
  | .agg parts => uptoBulkAll parts + 1
  | .iface _ d => uptoBulk d + 1
  | .map entries => uptoBulkEntries entries + 1
  | .held _ => 1
def uptoBulkAll {H : Type} : List (DataW H) → Nat
  | [] => 0
  | d :: r => uptoBulk d + uptoBulkAll r
def uptoBulkEntries {H : Type} : List (Lit × DataW H) → Nat
  | [] => 0
  | x :: r => uptoBulkEntry x + uptoBulkEntries r
def uptoBulkEntry {H : Type} : Lit × DataW H → Nat
  | (.string bytes, d) => bytes.length + uptoBulk d + 1
  | (_, d) => uptoBulk d + 1
 end
def uptoSmall : (H : Type) → List (DataW H) → Bool := fun _ ds => decide (uptoBulkAll ds ≤ 1048576)
def OpenSpec.upto (s : _root_.Go.ChangeSpec) : _root_.Go.OpenSpec := { _root_.Go.OpenSpec.ofChange s with cond := some uptoSmall }

/-- 'courierbaglaw11.CodecNotes', WHERE WHAT IT READS IS OF BULK AT MOST 1048576: true; the input reads as it did. -/
def codecNotesUptoRow : OpenClaim := { program := "ytpjdkobmcjgcjaa", sum := "feeabdff4714be98a659f6d78090ff199d75f139f55f0d5d30874500a2f807fc", func := "courierbag/courierbaglaw11.CodecNotes", spec := "codecNotes", apart := false, narrowed := true }
def CodecNotesUptoSaid : Prop := codecNotesUptoRow.holds Try.pinned (OpenSpec.upto codecNotesSpec)

/-- 'courierbaglaw11.CodecSubmissions', WHERE WHAT IT READS IS OF BULK AT MOST 1048576: true; the input reads as it did. -/
def codecSubmissionsUptoRow : OpenClaim := { program := "ytpjdkobmcjgcjaa", sum := "feeabdff4714be98a659f6d78090ff199d75f139f55f0d5d30874500a2f807fc", func := "courierbag/courierbaglaw11.CodecSubmissions", spec := "codecSubmissions", apart := false, narrowed := true }
def CodecSubmissionsUptoSaid : Prop := codecSubmissionsUptoRow.holds Try.pinned (OpenSpec.upto codecSubmissionsSpec)

/-- 'courierbaglaw11.CodecReads', WHERE WHAT IT READS IS OF BULK AT MOST 1048576: true; the input reads as it did. -/
def codecReadsUptoRow : OpenClaim := { program := "ytpjdkobmcjgcjaa", sum := "feeabdff4714be98a659f6d78090ff199d75f139f55f0d5d30874500a2f807fc", func := "courierbag/courierbaglaw11.CodecReads", spec := "codecReads", apart := false, narrowed := true }
def CodecReadsUptoSaid : Prop := codecReadsUptoRow.holds Try.pinned (OpenSpec.upto codecReadsSpec)

/-- 'courierbaglaw11.CodecEntries', WHERE WHAT IT READS IS OF BULK AT MOST 1048576: true; the input reads as it did. -/
def codecEntriesUptoRow : OpenClaim := { program := "ytpjdkobmcjgcjaa", sum := "feeabdff4714be98a659f6d78090ff199d75f139f55f0d5d30874500a2f807fc", func := "courierbag/courierbaglaw11.CodecEntries", spec := "codecEntries", unfollowed := true, recurses := true, apart := false, narrowed := true }
def CodecEntriesUptoSaid : Prop := codecEntriesUptoRow.holds Try.pinned (OpenSpec.upto codecEntriesSpec)

/-- 'courierbaglaw11.CodecBatches', WHERE WHAT IT READS IS OF BULK AT MOST 1048576: true; the input reads as it did. -/
def codecBatchesUptoRow : OpenClaim := { program := "ytpjdkobmcjgcjaa", sum := "feeabdff4714be98a659f6d78090ff199d75f139f55f0d5d30874500a2f807fc", func := "courierbag/courierbaglaw11.CodecBatches", spec := "codecBatches", unfollowed := true, recurses := true, apart := false, narrowed := true }
def CodecBatchesUptoSaid : Prop := codecBatchesUptoRow.holds Try.pinned (OpenSpec.upto codecBatchesSpec)

/-- 'courierbaglaw11.CodecLimits', WHERE WHAT IT READS IS OF BULK AT MOST 1048576: true; the input reads as it did. -/
def codecLimitsUptoRow : OpenClaim := { program := "ytpjdkobmcjgcjaa", sum := "feeabdff4714be98a659f6d78090ff199d75f139f55f0d5d30874500a2f807fc", func := "courierbag/courierbaglaw11.CodecLimits", spec := "codecLimits", unfollowed := true, recurses := true, apart := false, narrowed := true }
def CodecLimitsUptoSaid : Prop := codecLimitsUptoRow.holds Try.pinned (OpenSpec.upto codecLimitsSpec)

/-- 'courierbaglaw11.CodecAgain', WHERE WHAT IT READS IS OF BULK AT MOST 1048576: true; the input reads as it did. -/
def codecAgainUptoRow : OpenClaim := { program := "ytpjdkobmcjgcjaa", sum := "feeabdff4714be98a659f6d78090ff199d75f139f55f0d5d30874500a2f807fc", func := "courierbag/courierbaglaw11.CodecAgain", spec := "codecAgain", unfollowed := true, recurses := true, apart := false, narrowed := true }
def CodecAgainUptoSaid : Prop := codecAgainUptoRow.holds Try.pinned (OpenSpec.upto codecAgainSpec)

end Rows
end Go.Proofs.Ytpjdkobmcjgcjaa
