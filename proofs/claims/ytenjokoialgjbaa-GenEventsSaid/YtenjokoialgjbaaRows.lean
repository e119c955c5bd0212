/-
  No cell of these rows narrows 'for every input' (looked for: loops, veiled, ifaces, maps, wideKeys, modest, calm, conditions, laid).
  DERIVED. THE GIVEN ROWS OF THIS SEAT. 6 by the template 'for every input the law returns true; each argument reads behind the call as it read before'; 0 by the template 'total and deterministic' (their statements: YtenjokoialgjbaaTotals.lean).
  GIVEN WITH THE SEED: the statements are not yours to turn. If you find one false, say at which input.
  Laid BY PROGRAM, IN A SANDBOX (cutbox-rows.mjs): the forced cells as the released guide's own fill.sh prints them over the translation 42d6b07bcfa50097… (all of the seat's roots in one cut). By AI agents, Wed Nov 11 2026. No macro, syntax, notation, axiom, sorry.
-/
import Derived.Test.YtenjokoialgjbaaChecked
import GoSem.Claim
import GoSem.ClaimJoined
import GoSem.ClaimMapViews
import Derived.JoinedTies
import Derived.KernelRfl
namespace Go.Proofs.Ytenjokoialgjbaa
/- THE CELL 'sum', in the pinned program and in every row, IS THE sha256 OF THE DUMP (.gsa) THAT YtenjokoialgjbaaProg.lean LOADS. Nothing in Lean hashes anything: it is a label: what it is worth is what the hold of that sum in a sandbox is worth. -/
noncomputable def Try.pinned : Pinned := { name := "ytenjokoialgjbaa", sum := "42d6b07bcfa50097fa21139ac2b0a553c6e7e918cf62cb276dfb953eb37bcfc6", checked := Try.checked }
namespace Rows
def none {H : Type} : Left H := { results := [], args := [] }

/-- 'courierbaglaw1.WordsNarrow': WHATEVER THE INPUT: true; the input reads as it did. -/
def wordsNarrowSpec : ChangeSpec := { name := "wordsNarrow", fn := fun _ => fun
  | [d1, d2, d3] => { results := [.lit (.bool true)], args := [d1, d2, d3] }
  | _ => none }
def wordsNarrowRow : OpenClaim := { program := "ytenjokoialgjbaa", sum := "42d6b07bcfa50097fa21139ac2b0a553c6e7e918cf62cb276dfb953eb37bcfc6", func := "courierbag/courierbaglaw1.WordsNarrow", spec := "wordsNarrow", apart := false }
def WordsNarrowSaid : Prop := wordsNarrowRow.holds Try.pinned (OpenSpec.ofChange wordsNarrowSpec)

/-- ITS FALSE NEIGHBOUR: 'it returns false'. Refute it at one input. -/
def wordsNarrowWrong : ChangeSpec := { name := "wordsNarrow", fn := fun _ => fun
  | [d1, d2, d3] => { results := [.lit (.bool false)], args := [d1, d2, d3] }
  | _ => none }
def WordsNarrowWrongFalsely : Prop := wordsNarrowRow.holds Try.pinned (OpenSpec.ofChange wordsNarrowWrong)

/-- 'courierbaglaw26.GenLots': WHATEVER THE INPUT: true; the input reads as it did. -/
def genLotsSpec : ChangeSpec := { name := "genLots", fn := fun _ => fun
  | [d1, d2] => { results := [.lit (.bool true)], args := [d1, d2] }
  | _ => none }
def genLotsRow : OpenClaim := { program := "ytenjokoialgjbaa", sum := "42d6b07bcfa50097fa21139ac2b0a553c6e7e918cf62cb276dfb953eb37bcfc6", func := "courierbag/courierbaglaw26.GenLots", spec := "genLots", apart := false }
def GenLotsSaid : Prop := genLotsRow.holds Try.pinned (OpenSpec.ofChange genLotsSpec)

/-- ITS FALSE NEIGHBOUR: 'it returns false'. Refute it at one input. -/
def genLotsWrong : ChangeSpec := { name := "genLots", fn := fun _ => fun
  | [d1, d2] => { results := [.lit (.bool false)], args := [d1, d2] }
  | _ => none }
def GenLotsWrongFalsely : Prop := genLotsRow.holds Try.pinned (OpenSpec.ofChange genLotsWrong)

/-- 'courierbaglaw26.GenEvents': WHATEVER THE INPUT: true; the input reads as it did. -/
def genEventsSpec : ChangeSpec := { name := "genEvents", fn := fun _ => fun
  | [d1, d2, d3] => { results := [.lit (.bool true)], args := [d1, d2, d3] }
  | _ => none }
def genEventsRow : OpenClaim := { program := "ytenjokoialgjbaa", sum := "42d6b07bcfa50097fa21139ac2b0a553c6e7e918cf62cb276dfb953eb37bcfc6", func := "courierbag/courierbaglaw26.GenEvents", spec := "genEvents", apart := false }
def GenEventsSaid : Prop := genEventsRow.holds Try.pinned (OpenSpec.ofChange genEventsSpec)

/-- ITS FALSE NEIGHBOUR: 'it returns false'. Refute it at one input. -/
def genEventsWrong : ChangeSpec := { name := "genEvents", fn := fun _ => fun
  | [d1, d2, d3] => { results := [.lit (.bool false)], args := [d1, d2, d3] }
  | _ => none }
def GenEventsWrongFalsely : Prop := genEventsRow.holds Try.pinned (OpenSpec.ofChange genEventsWrong)

/-- 'courierbaglaw1.WordsRot': WHATEVER THE INPUT: true; the input reads as it did. -/
def wordsRotSpec : ChangeSpec := { name := "wordsRot", fn := fun _ => fun
  | [d1, d2, d3] => { results := [.lit (.bool true)], args := [d1, d2, d3] }
  | _ => none }
def wordsRotRow : OpenClaim := { program := "ytenjokoialgjbaa", sum := "42d6b07bcfa50097fa21139ac2b0a553c6e7e918cf62cb276dfb953eb37bcfc6", func := "courierbag/courierbaglaw1.WordsRot", spec := "wordsRot", apart := false }
def WordsRotSaid : Prop := wordsRotRow.holds Try.pinned (OpenSpec.ofChange wordsRotSpec)

/-- ITS FALSE NEIGHBOUR: 'it returns false'. Refute it at one input. -/
def wordsRotWrong : ChangeSpec := { name := "wordsRot", fn := fun _ => fun
  | [d1, d2, d3] => { results := [.lit (.bool false)], args := [d1, d2, d3] }
  | _ => none }
def WordsRotWrongFalsely : Prop := wordsRotRow.holds Try.pinned (OpenSpec.ofChange wordsRotWrong)

/-- 'courierbaglaw1.WordsPut': WHATEVER THE INPUT: true; the input reads as it did. -/
def wordsPutSpec : ChangeSpec := { name := "wordsPut", fn := fun _ => fun
  | [d1, d2, d3] => { results := [.lit (.bool true)], args := [d1, d2, d3] }
  | _ => none }
def wordsPutRow : OpenClaim := { program := "ytenjokoialgjbaa", sum := "42d6b07bcfa50097fa21139ac2b0a553c6e7e918cf62cb276dfb953eb37bcfc6", func := "courierbag/courierbaglaw1.WordsPut", spec := "wordsPut", apart := false }
def WordsPutSaid : Prop := wordsPutRow.holds Try.pinned (OpenSpec.ofChange wordsPutSpec)

/-- ITS FALSE NEIGHBOUR: 'it returns false'. Refute it at one input. -/
def wordsPutWrong : ChangeSpec := { name := "wordsPut", fn := fun _ => fun
  | [d1, d2, d3] => { results := [.lit (.bool false)], args := [d1, d2, d3] }
  | _ => none }
def WordsPutWrongFalsely : Prop := wordsPutRow.holds Try.pinned (OpenSpec.ofChange wordsPutWrong)

/-- 'courierbaglaw1.WordsGet': WHATEVER THE INPUT: true; the input reads as it did. -/
def wordsGetSpec : ChangeSpec := { name := "wordsGet", fn := fun _ => fun
  | [d1, d2] => { results := [.lit (.bool true)], args := [d1, d2] }
  | _ => none }
def wordsGetRow : OpenClaim := { program := "ytenjokoialgjbaa", sum := "42d6b07bcfa50097fa21139ac2b0a553c6e7e918cf62cb276dfb953eb37bcfc6", func := "courierbag/courierbaglaw1.WordsGet", spec := "wordsGet", apart := false }
def WordsGetSaid : Prop := wordsGetRow.holds Try.pinned (OpenSpec.ofChange wordsGetSpec)

/-- ITS FALSE NEIGHBOUR: 'it returns false'. Refute it at one input. -/
def wordsGetWrong : ChangeSpec := { name := "wordsGet", fn := fun _ => fun
  | [d1, d2] => { results := [.lit (.bool false)], args := [d1, d2] }
  | _ => none }
def WordsGetWrongFalsely : Prop := wordsGetRow.holds Try.pinned (OpenSpec.ofChange wordsGetWrong)

/- THE SECOND FORM. 'bulk': how many values and letters a reading holds, each counted each time it is reached (what is shared counts as often as it is met; a slice's spare places count too). A statement '..UptoSaid' is the law's where the arguments, and the package variables that the reading takes, are together of bulk at most 1048576: NARROWER than '..Said'. Prove '..Said' where nothing that the law and all that it calls make is longer than what came in: it says more and counts as full. Else prove '..UptoSaid'. A law counts once. -/
mutual
def uptoBulk {H : Type} : DataW H → Nat
  | .lit (.string bytes) => bytes.length + 1
  | .lit _ => 1
  | .nil => 1
  | .ptr d => uptoBulk d + 1
  | .slice elems spare => uptoBulkAll elems + uptoBulkAll spare + 1
  | .agg parts => uptoBulkAll parts + 1
  | .iface _ d => uptoBulk d + 1
  | .map entries => uptoBulkEntries entries + 1
  | .held _ => 1
def uptoBulkAll {H : Type} : List (DataW H) → Nat
  | [] => 0
  | d :: r => uptoBulk d + uptoBulkAll r
def uptoBulkEntries {H : Type} : List (Lit × DataW H) → Nat
  | [] => 0
  | x :: r => uptoBulkEntry x + uptoBulkEntries r
def uptoBulkEntry {H : Type} : Lit × DataW H → Nat
  | (.string bytes, d) => bytes.length + uptoBulk d + 1
  | (_, d) => uptoBulk d + 1
 end
def uptoSmall : (H : Type) → List (DataW H) → Bool := fun _ ds => decide (uptoBulkAll ds ≤ 1048576)
def OpenSpec.upto (s : _root_.Go.ChangeSpec) : _root_.Go.OpenSpec := { _root_.Go.OpenSpec.ofChange s with cond := some uptoSmall }

/-- 'courierbaglaw1.WordsNarrow', WHERE WHAT IT READS IS OF BULK AT MOST 1048576: true; the input reads as it did. -/
def wordsNarrowUptoRow : OpenClaim := { program := "ytenjokoialgjbaa", sum := "42d6b07bcfa50097fa21139ac2b0a553c6e7e918cf62cb276dfb953eb37bcfc6", func := "courierbag/courierbaglaw1.WordsNarrow", spec := "wordsNarrow", apart := false, narrowed := true }
def WordsNarrowUptoSaid : Prop := wordsNarrowUptoRow.holds Try.pinned (OpenSpec.upto wordsNarrowSpec)

/-- 'courierbaglaw26.GenLots', WHERE WHAT IT READS IS OF BULK AT MOST 1048576: true; the input reads as it did. -/
def genLotsUptoRow : OpenClaim := { program := "ytenjokoialgjbaa", sum := "42d6b07bcfa50097fa21139ac2b0a553c6e7e918cf62cb276dfb953eb37bcfc6", func := "courierbag/courierbaglaw26.GenLots", spec := "genLots", apart := false, narrowed := true }
def GenLotsUptoSaid : Prop := genLotsUptoRow.holds Try.pinned (OpenSpec.upto genLotsSpec)

/-- 'courierbaglaw26.GenEvents', WHERE WHAT IT READS IS OF BULK AT MOST 1048576: true; the input reads as it did. -/
def genEventsUptoRow : OpenClaim := { program := "ytenjokoialgjbaa", sum := "42d6b07bcfa50097fa21139ac2b0a553c6e7e918cf62cb276dfb953eb37bcfc6", func := "courierbag/courierbaglaw26.GenEvents", spec := "genEvents", apart := false, narrowed := true }
def GenEventsUptoSaid : Prop := genEventsUptoRow.holds Try.pinned (OpenSpec.upto genEventsSpec)

/-- 'courierbaglaw1.WordsRot', WHERE WHAT IT READS IS OF BULK AT MOST 1048576: true; the input reads as it did. -/
def wordsRotUptoRow : OpenClaim := { program := "ytenjokoialgjbaa", sum := "42d6b07bcfa50097fa21139ac2b0a553c6e7e918cf62cb276dfb953eb37bcfc6", func := "courierbag/courierbaglaw1.WordsRot", spec := "wordsRot", apart := false, narrowed := true }
def WordsRotUptoSaid : Prop := wordsRotUptoRow.holds Try.pinned (OpenSpec.upto wordsRotSpec)

/-- 'courierbaglaw1.WordsPut', WHERE WHAT IT READS IS OF BULK AT MOST 1048576: true; the input reads as it did. -/
def wordsPutUptoRow : OpenClaim := { program := "ytenjokoialgjbaa", sum := "42d6b07bcfa50097fa21139ac2b0a553c6e7e918cf62cb276dfb953eb37bcfc6", func := "courierbag/courierbaglaw1.WordsPut", spec := "wordsPut", apart := false, narrowed := true }
def WordsPutUptoSaid : Prop := wordsPutUptoRow.holds Try.pinned (OpenSpec.upto wordsPutSpec)

/-- 'courierbaglaw1.WordsGet', WHERE WHAT IT READS IS OF BULK AT MOST 1048576: true; the input reads as it did. -/
def wordsGetUptoRow : OpenClaim := { program := "ytenjokoialgjbaa", sum := "42d6b07bcfa50097fa21139ac2b0a553c6e7e918cf62cb276dfb953eb37bcfc6", func := "courierbag/courierbaglaw1.WordsGet", spec := "wordsGet", apart := false, narrowed := true }
def WordsGetUptoSaid : Prop := wordsGetUptoRow.holds Try.pinned (OpenSpec.upto wordsGetSpec)

end Rows
end Go.Proofs.Ytenjokoialgjbaa
