/-
  No cell of these rows narrows 'for every input' (looked for: loops, veiled, ifaces, maps, wideKeys, modest, calm, conditions, laid).
  DERIVED. THE GIVEN ROWS OF THIS SEAT. 5 by the template 'for every input the law returns true; each argument reads behind the call as it read before'; 0 by the template 'total and deterministic' (their statements: YthhdbpdgppppiaaTotals.lean).
  GIVEN WITH THE SEED: the statements are not yours to turn. If you find one false, say at which input.
  Laid BY PROGRAM, IN A SANDBOX (cutbox-rows.mjs): the forced cells as the released guide's own fill.sh prints them over the translation c94664c94c6295cb… (all of the seat's roots in one cut). By AI agents, Wed Nov 11 2026. No macro, syntax, notation, axiom, sorry.
-/
import Derived.Test.YthhdbpdgppppiaaChecked
import GoSem.Claim
import GoSem.ClaimJoined
import GoSem.ClaimMapViews
import Derived.JoinedTies
import Derived.KernelRfl
namespace Go.Proofs.Ythhdbpdgppppiaa
/- THE CELL 'sum', in the pinned program and in every row, IS THE sha256 OF THE DUMP (.gsa) THAT YthhdbpdgppppiaaProg.lean LOADS. Nothing in Lean hashes anything: it is a label: what it is worth is what the hold of that sum in a sandbox is worth. -/
noncomputable def Try.pinned : Pinned := { name := "ythhdbpdgppppiaa", sum := "c94664c94c6295cbbef3dd30d5c28708c991a05dbccc0484efd2e3354abc180b", checked := Try.checked }
namespace Rows
def none {H : Type} : Left H := { results := [], args := [] }

/-- 'timesynclaw19.NtpmsgEncodes': WHATEVER THE INPUT: true; the input reads as it did. -/
def ntpmsgEncodesSpec : ChangeSpec := { name := "ntpmsgEncodes", fn := fun _ => fun
  | [d] => { results := [.lit (.bool true)], args := [d] }
  | _ => none }
def ntpmsgEncodesRow : OpenClaim := { program := "ythhdbpdgppppiaa", sum := "c94664c94c6295cbbef3dd30d5c28708c991a05dbccc0484efd2e3354abc180b", func := "timesync/timesynclaw19.NtpmsgEncodes", spec := "ntpmsgEncodes", apart := false }
def NtpmsgEncodesSaid : Prop := ntpmsgEncodesRow.holds Try.pinned (OpenSpec.ofChange ntpmsgEncodesSpec)

/-- ITS FALSE NEIGHBOUR: 'it returns false'. Refute it at one input. -/
def ntpmsgEncodesWrong : ChangeSpec := { name := "ntpmsgEncodes", fn := fun _ => fun
  | [d] => { results := [.lit (.bool false)], args := [d] }
  | _ => none }
def NtpmsgEncodesWrongFalsely : Prop := ntpmsgEncodesRow.holds Try.pinned (OpenSpec.ofChange ntpmsgEncodesWrong)

/-- 'timesynclaw19.NtpmsgDecodes': WHATEVER THE INPUT: true; the input reads as it did. -/
def ntpmsgDecodesSpec : ChangeSpec := { name := "ntpmsgDecodes", fn := fun _ => fun
  | [d] => { results := [.lit (.bool true)], args := [d] }
  | _ => none }
def ntpmsgDecodesRow : OpenClaim := { program := "ythhdbpdgppppiaa", sum := "c94664c94c6295cbbef3dd30d5c28708c991a05dbccc0484efd2e3354abc180b", func := "timesync/timesynclaw19.NtpmsgDecodes", spec := "ntpmsgDecodes", apart := false }
def NtpmsgDecodesSaid : Prop := ntpmsgDecodesRow.holds Try.pinned (OpenSpec.ofChange ntpmsgDecodesSpec)

/-- ITS FALSE NEIGHBOUR: 'it returns false'. Refute it at one input. -/
def ntpmsgDecodesWrong : ChangeSpec := { name := "ntpmsgDecodes", fn := fun _ => fun
  | [d] => { results := [.lit (.bool false)], args := [d] }
  | _ => none }
def NtpmsgDecodesWrongFalsely : Prop := ntpmsgDecodesRow.holds Try.pinned (OpenSpec.ofChange ntpmsgDecodesWrong)

/-- 'timesynclaw19.NtpmsgBack': WHATEVER THE INPUT: true; the input reads as it did. -/
def ntpmsgBackSpec : ChangeSpec := { name := "ntpmsgBack", fn := fun _ => fun
  | [d1, d2] => { results := [.lit (.bool true)], args := [d1, d2] }
  | _ => none }
def ntpmsgBackRow : OpenClaim := { program := "ythhdbpdgppppiaa", sum := "c94664c94c6295cbbef3dd30d5c28708c991a05dbccc0484efd2e3354abc180b", func := "timesync/timesynclaw19.NtpmsgBack", spec := "ntpmsgBack", apart := false }
def NtpmsgBackSaid : Prop := ntpmsgBackRow.holds Try.pinned (OpenSpec.ofChange ntpmsgBackSpec)

/-- ITS FALSE NEIGHBOUR: 'it returns false'. Refute it at one input. -/
def ntpmsgBackWrong : ChangeSpec := { name := "ntpmsgBack", fn := fun _ => fun
  | [d1, d2] => { results := [.lit (.bool false)], args := [d1, d2] }
  | _ => none }
def NtpmsgBackWrongFalsely : Prop := ntpmsgBackRow.holds Try.pinned (OpenSpec.ofChange ntpmsgBackWrong)

/-- 'timesynclaw19.NtpmsgAgain': WHATEVER THE INPUT: true; the input reads as it did. -/
def ntpmsgAgainSpec : ChangeSpec := { name := "ntpmsgAgain", fn := fun _ => fun
  | [d] => { results := [.lit (.bool true)], args := [d] }
  | _ => none }
def ntpmsgAgainRow : OpenClaim := { program := "ythhdbpdgppppiaa", sum := "c94664c94c6295cbbef3dd30d5c28708c991a05dbccc0484efd2e3354abc180b", func := "timesync/timesynclaw19.NtpmsgAgain", spec := "ntpmsgAgain", apart := false }
def NtpmsgAgainSaid : Prop := ntpmsgAgainRow.holds Try.pinned (OpenSpec.ofChange ntpmsgAgainSpec)

/-- ITS FALSE NEIGHBOUR: 'it returns false'. Refute it at one input. -/
def ntpmsgAgainWrong : ChangeSpec := { name := "ntpmsgAgain", fn := fun _ => fun
  | [d] => { results := [.lit (.bool false)], args := [d] }
  | _ => none }
def NtpmsgAgainWrongFalsely : Prop := ntpmsgAgainRow.holds Try.pinned (OpenSpec.ofChange ntpmsgAgainWrong)

/-- 'timesynclaw19.NtpmsgFields': WHATEVER THE INPUT: true; the input reads as it did. -/
def ntpmsgFieldsSpec : ChangeSpec := { name := "ntpmsgFields", fn := fun _ => fun
  | [d] => { results := [.lit (.bool true)], args := [d] }
  | _ => none }
def ntpmsgFieldsRow : OpenClaim := { program := "ythhdbpdgppppiaa", sum := "c94664c94c6295cbbef3dd30d5c28708c991a05dbccc0484efd2e3354abc180b", func := "timesync/timesynclaw19.NtpmsgFields", spec := "ntpmsgFields", apart := false }
def NtpmsgFieldsSaid : Prop := ntpmsgFieldsRow.holds Try.pinned (OpenSpec.ofChange ntpmsgFieldsSpec)

/-- ITS FALSE NEIGHBOUR: 'it returns false'. Refute it at one input. -/
def ntpmsgFieldsWrong : ChangeSpec := { name := "ntpmsgFields", fn := fun _ => fun
  | [d] => { results := [.lit (.bool false)], args := [d] }
  | _ => none }
def NtpmsgFieldsWrongFalsely : Prop := ntpmsgFieldsRow.holds Try.pinned (OpenSpec.ofChange ntpmsgFieldsWrong)

/- THE SECOND FORM. 'bulk': how many values and letters a reading holds, each counted each time it is reached (what is shared counts as often as it is met; a slice's spare places count too). A statement '..UptoSaid' is the law's where the arguments, and the package variables that the reading takes, are together of bulk at most 1048576: NARROWER than '..Said'. Prove '..Said' where nothing that the law and all that it calls make is longer than what came in: it says more and counts as full. Else prove '..UptoSaid'. A law counts once. -/
mutual
def uptoBulk {H : Type} : DataW H → Nat
  | .lit (.string bytes) => bytes.length + 1
  | .lit _ => 1
  | .nil => 1
  | .ptr d => uptoBulk d + 1
  | .slice elems spare => uptoBulkAll elems + uptoBulkAll spare + 1
  | .agg parts => uptoBulkAll parts + 1
  | .iface _ d => uptoBulk d + 1
  | .map entries => uptoBulkEntries entries + 1
  | .held _ => 1
def uptoBulkAll {H : Type} : List (DataW H) → Nat
  | [] => 0
  | d :: r => uptoBulk d + uptoBulkAll r
def uptoBulkEntries {H : Type} : List (Lit × DataW H) → Nat
  | [] => 0
  | x :: r => uptoBulkEntry x + uptoBulkEntries r
def uptoBulkEntry {H : Type} : Lit × DataW H → Nat
  | (.string bytes, d) => bytes.length + uptoBulk d + 1
  | (_, d) => uptoBulk d + 1
 end
def uptoSmall : (H : Type) → List (DataW H) → Bool := fun _ ds => decide (uptoBulkAll ds ≤ 1048576)
def OpenSpec.upto (s : _root_.Go.ChangeSpec) : _root_.Go.OpenSpec := { _root_.Go.OpenSpec.ofChange s with cond := some uptoSmall }

/-- 'timesynclaw19.NtpmsgEncodes', WHERE WHAT IT READS IS OF BULK AT MOST 1048576: true; the input reads as it did. -/
def ntpmsgEncodesUptoRow : OpenClaim := { program := "ythhdbpdgppppiaa", sum := "c94664c94c6295cbbef3dd30d5c28708c991a05dbccc0484efd2e3354abc180b", func := "timesync/timesynclaw19.NtpmsgEncodes", spec := "ntpmsgEncodes", apart := false, narrowed := true }
def NtpmsgEncodesUptoSaid : Prop := ntpmsgEncodesUptoRow.holds Try.pinned (OpenSpec.upto ntpmsgEncodesSpec)

/-- 'timesynclaw19.NtpmsgDecodes', WHERE WHAT IT READS IS OF BULK AT MOST 1048576: true; the input reads as it did. -/
def ntpmsgDecodesUptoRow : OpenClaim := { program := "ythhdbpdgppppiaa", sum := "c94664c94c6295cbbef3dd30d5c28708c991a05dbccc0484efd2e3354abc180b", func := "timesync/timesynclaw19.NtpmsgDecodes", spec := "ntpmsgDecodes", apart := false, narrowed := true }
def NtpmsgDecodesUptoSaid : Prop := ntpmsgDecodesUptoRow.holds Try.pinned (OpenSpec.upto ntpmsgDecodesSpec)

/-- 'timesynclaw19.NtpmsgBack', WHERE WHAT IT READS IS OF BULK AT MOST 1048576: true; the input reads as it did. -/
def ntpmsgBackUptoRow : OpenClaim := { program := "ythhdbpdgppppiaa", sum := "c94664c94c6295cbbef3dd30d5c28708c991a05dbccc0484efd2e3354abc180b", func := "timesync/timesynclaw19.NtpmsgBack", spec := "ntpmsgBack", apart := false, narrowed := true }
def NtpmsgBackUptoSaid : Prop := ntpmsgBackUptoRow.holds Try.pinned (OpenSpec.upto ntpmsgBackSpec)

/-- 'timesynclaw19.NtpmsgAgain', WHERE WHAT IT READS IS OF BULK AT MOST 1048576: true; the input reads as it did. -/
def ntpmsgAgainUptoRow : OpenClaim := { program := "ythhdbpdgppppiaa", sum := "c94664c94c6295cbbef3dd30d5c28708c991a05dbccc0484efd2e3354abc180b", func := "timesync/timesynclaw19.NtpmsgAgain", spec := "ntpmsgAgain", apart := false, narrowed := true }
def NtpmsgAgainUptoSaid : Prop := ntpmsgAgainUptoRow.holds Try.pinned (OpenSpec.upto ntpmsgAgainSpec)

/-- 'timesynclaw19.NtpmsgFields', WHERE WHAT IT READS IS OF BULK AT MOST 1048576: true; the input reads as it did. -/
def ntpmsgFieldsUptoRow : OpenClaim := { program := "ythhdbpdgppppiaa", sum := "c94664c94c6295cbbef3dd30d5c28708c991a05dbccc0484efd2e3354abc180b", func := "timesync/timesynclaw19.NtpmsgFields", spec := "ntpmsgFields", apart := false, narrowed := true }
def NtpmsgFieldsUptoSaid : Prop := ntpmsgFieldsUptoRow.holds Try.pinned (OpenSpec.upto ntpmsgFieldsSpec)

end Rows
end Go.Proofs.Ythhdbpdgppppiaa
