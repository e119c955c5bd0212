/-
  No cell of these rows narrows 'for every input' (looked for: loops, veiled, ifaces, maps, wideKeys, modest, calm, conditions, laid).
  DERIVED. THE GIVEN ROWS OF THIS SEAT. 5 by the template 'for every input the law returns true; each argument reads behind the call as it read before'; 0 by the template 'total and deterministic' (their statements: YthiijdbiikljpaaTotals.lean).
  GIVEN WITH THE SEED: the statements are not yours to turn. If you find one false, say at which input.
  Laid BY PROGRAM, IN A SANDBOX (cutbox-rows.mjs): the forced cells as the released guide's own fill.sh prints them over the translation 61b781025954a4e0… (all of the seat's roots in one cut). By AI agents, Wed Nov 11 2026. No macro, syntax, notation, axiom, sorry.
-/
import Derived.Test.YthiijdbiikljpaaChecked
import GoSem.Claim
import GoSem.ClaimJoined
import GoSem.ClaimMapViews
import Derived.JoinedTies
import Derived.KernelRfl
namespace Go.Proofs.Ythiijdbiikljpaa
/- THE CELL 'sum', in the pinned program and in every row, IS THE sha256 OF THE DUMP (.gsa) THAT YthiijdbiikljpaaProg.lean LOADS. Nothing in Lean hashes anything: it is a label: what it is worth is what the hold of that sum in a sandbox is worth. -/
noncomputable def Try.pinned : Pinned := { name := "ythiijdbiikljpaa", sum := "61b781025954a4e0bbbfadb21284a78d276d71183b16a269c031d41419730202", checked := Try.checked }
namespace Rows
def none {H : Type} : Left H := { results := [], args := [] }

/-- 'courierbaglaw23.MailboxRounds': WHATEVER THE INPUT: true; the input reads as it did. -/
def mailboxRoundsSpec : ChangeSpec := { name := "mailboxRounds", fn := fun _ => fun
  | [d1, d2, d3] => { results := [.lit (.bool true)], args := [d1, d2, d3] }
  | _ => none }
def mailboxRoundsRow : OpenClaim := { program := "ythiijdbiikljpaa", sum := "61b781025954a4e0bbbfadb21284a78d276d71183b16a269c031d41419730202", func := "courierbag/courierbaglaw23.MailboxRounds", spec := "mailboxRounds", unfollowed := true, recurses := true, plainKeys := false, apart := false }
def MailboxRoundsSaid : Prop := mailboxRoundsRow.holds Try.pinned (OpenSpec.ofChange mailboxRoundsSpec)

/-- ITS FALSE NEIGHBOUR: 'it returns false'. Refute it at one input. -/
def mailboxRoundsWrong : ChangeSpec := { name := "mailboxRounds", fn := fun _ => fun
  | [d1, d2, d3] => { results := [.lit (.bool false)], args := [d1, d2, d3] }
  | _ => none }
def MailboxRoundsWrongFalsely : Prop := mailboxRoundsRow.holds Try.pinned (OpenSpec.ofChange mailboxRoundsWrong)

/-- 'courierbaglaw23.MailboxProofs': WHATEVER THE INPUT: true; the input reads as it did. -/
def mailboxProofsSpec : ChangeSpec := { name := "mailboxProofs", fn := fun _ => fun
  | [d1, d2, d3, d4] => { results := [.lit (.bool true)], args := [d1, d2, d3, d4] }
  | _ => none }
def mailboxProofsRow : OpenClaim := { program := "ythiijdbiikljpaa", sum := "61b781025954a4e0bbbfadb21284a78d276d71183b16a269c031d41419730202", func := "courierbag/courierbaglaw23.MailboxProofs", spec := "mailboxProofs", unfollowed := true, recurses := true, plainKeys := false, apart := false }
def MailboxProofsSaid : Prop := mailboxProofsRow.holds Try.pinned (OpenSpec.ofChange mailboxProofsSpec)

/-- ITS FALSE NEIGHBOUR: 'it returns false'. Refute it at one input. -/
def mailboxProofsWrong : ChangeSpec := { name := "mailboxProofs", fn := fun _ => fun
  | [d1, d2, d3, d4] => { results := [.lit (.bool false)], args := [d1, d2, d3, d4] }
  | _ => none }
def MailboxProofsWrongFalsely : Prop := mailboxProofsRow.holds Try.pinned (OpenSpec.ofChange mailboxProofsWrong)

/-- 'courierbaglaw23.MailboxFetches': WHATEVER THE INPUT: true; the input reads as it did. -/
def mailboxFetchesSpec : ChangeSpec := { name := "mailboxFetches", fn := fun _ => fun
  | [d1, d2, d3] => { results := [.lit (.bool true)], args := [d1, d2, d3] }
  | _ => none }
def mailboxFetchesRow : OpenClaim := { program := "ythiijdbiikljpaa", sum := "61b781025954a4e0bbbfadb21284a78d276d71183b16a269c031d41419730202", func := "courierbag/courierbaglaw23.MailboxFetches", spec := "mailboxFetches", unfollowed := true, recurses := true, plainKeys := false, apart := false }
def MailboxFetchesSaid : Prop := mailboxFetchesRow.holds Try.pinned (OpenSpec.ofChange mailboxFetchesSpec)

/-- ITS FALSE NEIGHBOUR: 'it returns false'. Refute it at one input. -/
def mailboxFetchesWrong : ChangeSpec := { name := "mailboxFetches", fn := fun _ => fun
  | [d1, d2, d3] => { results := [.lit (.bool false)], args := [d1, d2, d3] }
  | _ => none }
def MailboxFetchesWrongFalsely : Prop := mailboxFetchesRow.holds Try.pinned (OpenSpec.ofChange mailboxFetchesWrong)

/-- 'courierbaglaw23.MailboxTorn': WHATEVER THE INPUT: true; the input reads as it did. -/
def mailboxTornSpec : ChangeSpec := { name := "mailboxTorn", fn := fun _ => fun
  | [d1, d2, d3] => { results := [.lit (.bool true)], args := [d1, d2, d3] }
  | _ => none }
def mailboxTornRow : OpenClaim := { program := "ythiijdbiikljpaa", sum := "61b781025954a4e0bbbfadb21284a78d276d71183b16a269c031d41419730202", func := "courierbag/courierbaglaw23.MailboxTorn", spec := "mailboxTorn", unfollowed := true, recurses := true, plainKeys := false, apart := false }
def MailboxTornSaid : Prop := mailboxTornRow.holds Try.pinned (OpenSpec.ofChange mailboxTornSpec)

/-- ITS FALSE NEIGHBOUR: 'it returns false'. Refute it at one input. -/
def mailboxTornWrong : ChangeSpec := { name := "mailboxTorn", fn := fun _ => fun
  | [d1, d2, d3] => { results := [.lit (.bool false)], args := [d1, d2, d3] }
  | _ => none }
def MailboxTornWrongFalsely : Prop := mailboxTornRow.holds Try.pinned (OpenSpec.ofChange mailboxTornWrong)

/-- 'courierbaglaw23.MailboxKeeps': WHATEVER THE INPUT: true; the input reads as it did. -/
def mailboxKeepsSpec : ChangeSpec := { name := "mailboxKeeps", fn := fun _ => fun
  | [d1, d2, d3, d4] => { results := [.lit (.bool true)], args := [d1, d2, d3, d4] }
  | _ => none }
def mailboxKeepsRow : OpenClaim := { program := "ythiijdbiikljpaa", sum := "61b781025954a4e0bbbfadb21284a78d276d71183b16a269c031d41419730202", func := "courierbag/courierbaglaw23.MailboxKeeps", spec := "mailboxKeeps", unfollowed := true, recurses := true, plainKeys := false, apart := false }
def MailboxKeepsSaid : Prop := mailboxKeepsRow.holds Try.pinned (OpenSpec.ofChange mailboxKeepsSpec)

/-- ITS FALSE NEIGHBOUR: 'it returns false'. Refute it at one input. -/
def mailboxKeepsWrong : ChangeSpec := { name := "mailboxKeeps", fn := fun _ => fun
  | [d1, d2, d3, d4] => { results := [.lit (.bool false)], args := [d1, d2, d3, d4] }
  | _ => none }
def MailboxKeepsWrongFalsely : Prop := mailboxKeepsRow.holds Try.pinned (OpenSpec.ofChange mailboxKeepsWrong)

/- THE SECOND FORM. 'bulk': how many values and letters a reading holds, each counted each time it is reached (what is shared counts as often as it is met; a slice's spare places count too). A statement '..UptoSaid' is the law's where the arguments, and the package variables that the reading takes, are together of bulk at most 1048576: NARROWER than '..Said'. Prove '..Said' where nothing that the law and all that it calls make is longer than what came in: it says more and counts as full. Else prove '..UptoSaid'. A law counts once. -/
mutual
def uptoBulk {H : Type} : DataW H → Nat
  | .lit (.string bytes) => bytes.length + 1
  | .lit _ => 1
  | .nil => 1
  | .ptr d => uptoBulk d + 1
  | .slice elems spare => uptoBulkAll elems + uptoBulkAll spare + 1
  | .agg parts => uptoBulkAll parts + 1
  | .iface _ d => uptoBulk d + 1
  | .map entries => uptoBulkEntries entries + 1
  | .held _ => 1
def uptoBulkAll {H : Type} : List (DataW H) → Nat
  | [] => 0
  | d :: r => uptoBulk d + uptoBulkAll r
def uptoBulkEntries {H : Type} : List (Lit × DataW H) → Nat
  | [] => 0
  | x :: r => uptoBulkEntry x + uptoBulkEntries r
def uptoBulkEntry {H : Type} : Lit × DataW H → Nat
  | (.string bytes, d) => bytes.length + uptoBulk d + 1
  | (_, d) => uptoBulk d + 1
 end
def uptoSmall : (H : Type) → List (DataW H) → Bool := fun _ ds => decide (uptoBulkAll ds ≤ 1048576)
def OpenSpec.upto (s : _root_.Go.ChangeSpec) : _root_.Go.OpenSpec := { _root_.Go.OpenSpec.ofChange s with cond := some uptoSmall }

/-- 'courierbaglaw23.MailboxRounds', WHERE WHAT IT READS IS OF BULK AT MOST 1048576: true; the input reads as it did. -/
def mailboxRoundsUptoRow : OpenClaim := { program := "ythiijdbiikljpaa", sum := "61b781025954a4e0bbbfadb21284a78d276d71183b16a269c031d41419730202", func := "courierbag/courierbaglaw23.MailboxRounds", spec := "mailboxRounds", unfollowed := true, recurses := true, plainKeys := false, apart := false, narrowed := true }
def MailboxRoundsUptoSaid : Prop := mailboxRoundsUptoRow.holds Try.pinned (OpenSpec.upto mailboxRoundsSpec)

/-- 'courierbaglaw23.MailboxProofs', WHERE WHAT IT READS IS OF BULK AT MOST 1048576: true; the input reads as it did. -/
def mailboxProofsUptoRow : OpenClaim := { program := "ythiijdbiikljpaa", sum := "61b781025954a4e0bbbfadb21284a78d276d71183b16a269c031d41419730202", func := "courierbag/courierbaglaw23.MailboxProofs", spec := "mailboxProofs", unfollowed := true, recurses := true, plainKeys := false, apart := false, narrowed := true }
def MailboxProofsUptoSaid : Prop := mailboxProofsUptoRow.holds Try.pinned (OpenSpec.upto mailboxProofsSpec)

/-- 'courierbaglaw23.MailboxFetches', WHERE WHAT IT READS IS OF BULK AT MOST 1048576: true; the input reads as it did. -/
def mailboxFetchesUptoRow : OpenClaim := { program := "ythiijdbiikljpaa", sum := "61b781025954a4e0bbbfadb21284a78d276d71183b16a269c031d41419730202", func := "courierbag/courierbaglaw23.MailboxFetches", spec := "mailboxFetches", unfollowed := true, recurses := true, plainKeys := false, apart := false, narrowed := true }
def MailboxFetchesUptoSaid : Prop := mailboxFetchesUptoRow.holds Try.pinned (OpenSpec.upto mailboxFetchesSpec)

/-- 'courierbaglaw23.MailboxTorn', WHERE WHAT IT READS IS OF BULK AT MOST 1048576: true; the input reads as it did. -/
def mailboxTornUptoRow : OpenClaim := { program := "ythiijdbiikljpaa", sum := "61b781025954a4e0bbbfadb21284a78d276d71183b16a269c031d41419730202", func := "courierbag/courierbaglaw23.MailboxTorn", spec := "mailboxTorn", unfollowed := true, recurses := true, plainKeys := false, apart := false, narrowed := true }
def MailboxTornUptoSaid : Prop := mailboxTornUptoRow.holds Try.pinned (OpenSpec.upto mailboxTornSpec)

/-- 'courierbaglaw23.MailboxKeeps', WHERE WHAT IT READS IS OF BULK AT MOST 1048576: true; the input reads as it did. -/
def mailboxKeepsUptoRow : OpenClaim := { program := "ythiijdbiikljpaa", sum := "61b781025954a4e0bbbfadb21284a78d276d71183b16a269c031d41419730202", func := "courierbag/courierbaglaw23.MailboxKeeps", spec := "mailboxKeeps", unfollowed := true, recurses := true, plainKeys := false, apart := false, narrowed := true }
def MailboxKeepsUptoSaid : Prop := mailboxKeepsUptoRow.holds Try.pinned (OpenSpec.upto mailboxKeepsSpec)

end Rows
end Go.Proofs.Ythiijdbiikljpaa
