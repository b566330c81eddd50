/-
  No cell of these rows narrows 'for every input' (looked for: loops, veiled, ifaces, maps, wideKeys, modest, calm, conditions, laid).
  DERIVED. THE GIVEN ROWS OF THIS SEAT. 5 by the template 'for every input the law returns true; each argument reads behind the call as it read before'; 0 by the template 'total and deterministic' (their statements: YtloopnfnbhdlmaaTotals.lean).
  GIVEN WITH THE SEED: the statements are not yours to turn. If you find one false, say at which input.
  Laid BY PROGRAM, IN A SANDBOX (cutbox-rows.mjs): the forced cells as the released guide's own fill.sh prints them over the translation 9e81c64fa2557a55… (all of the seat's roots in one cut). By AI agents, Wed Nov 11 2026. No macro, syntax, notation, axiom, sorry.
-/
import Derived.Test.YtloopnfnbhdlmaaChecked
import GoSem.Claim
import GoSem.ClaimJoined
import GoSem.ClaimMapViews
import Derived.JoinedTies
import Derived.KernelRfl
namespace Go.Proofs.Ytloopnfnbhdlmaa
/- THE CELL 'sum', in the pinned program and in every row, IS THE sha256 OF THE DUMP (.gsa) THAT YtloopnfnbhdlmaaProg.lean LOADS. Nothing in Lean hashes anything: it is a label: what it is worth is what the hold of that sum in a sandbox is worth. -/
noncomputable def Try.pinned : Pinned := { name := "ytloopnfnbhdlmaa", sum := "9e81c64fa2557a550bc2f74f98ff3b0da6e0b9b8656c696e340eb062feb5ccc6", checked := Try.checked }
namespace Rows
def none {H : Type} : Left H := { results := [], args := [] }

/-- 'timesynclaw20.ExtAppends': WHATEVER THE INPUT: true; the input reads as it did. -/
def extAppendsSpec : ChangeSpec := { name := "extAppends", fn := fun _ => fun
  | [d1, d2] => { results := [.lit (.bool true)], args := [d1, d2] }
  | _ => none }
def extAppendsRow : OpenClaim := { program := "ytloopnfnbhdlmaa", sum := "9e81c64fa2557a550bc2f74f98ff3b0da6e0b9b8656c696e340eb062feb5ccc6", func := "timesync/timesynclaw20.ExtAppends", spec := "extAppends", inPlace := ["internal/bytealg.MakeNoZero"], apart := false }
def ExtAppendsSaid : Prop := extAppendsRow.holds Try.pinned (OpenSpec.ofChange extAppendsSpec)

/-- ITS FALSE NEIGHBOUR: 'it returns false'. Refute it at one input. -/
def extAppendsWrong : ChangeSpec := { name := "extAppends", fn := fun _ => fun
  | [d1, d2] => { results := [.lit (.bool false)], args := [d1, d2] }
  | _ => none }
def ExtAppendsWrongFalsely : Prop := extAppendsRow.holds Try.pinned (OpenSpec.ofChange extAppendsWrong)

/-- 'timesynclaw20.ExtParses': WHATEVER THE INPUT: true; the input reads as it did. -/
def extParsesSpec : ChangeSpec := { name := "extParses", fn := fun _ => fun
  | [d] => { results := [.lit (.bool true)], args := [d] }
  | _ => none }
def extParsesRow : OpenClaim := { program := "ytloopnfnbhdlmaa", sum := "9e81c64fa2557a550bc2f74f98ff3b0da6e0b9b8656c696e340eb062feb5ccc6", func := "timesync/timesynclaw20.ExtParses", spec := "extParses", inPlace := ["internal/bytealg.MakeNoZero"], apart := false }
def ExtParsesSaid : Prop := extParsesRow.holds Try.pinned (OpenSpec.ofChange extParsesSpec)

/-- ITS FALSE NEIGHBOUR: 'it returns false'. Refute it at one input. -/
def extParsesWrong : ChangeSpec := { name := "extParses", fn := fun _ => fun
  | [d] => { results := [.lit (.bool false)], args := [d] }
  | _ => none }
def ExtParsesWrongFalsely : Prop := extParsesRow.holds Try.pinned (OpenSpec.ofChange extParsesWrong)

/-- 'timesynclaw20.ExtWrites': WHATEVER THE INPUT: true; the input reads as it did. -/
def extWritesSpec : ChangeSpec := { name := "extWrites", fn := fun _ => fun
  | [d] => { results := [.lit (.bool true)], args := [d] }
  | _ => none }
def extWritesRow : OpenClaim := { program := "ytloopnfnbhdlmaa", sum := "9e81c64fa2557a550bc2f74f98ff3b0da6e0b9b8656c696e340eb062feb5ccc6", func := "timesync/timesynclaw20.ExtWrites", spec := "extWrites", inPlace := ["internal/bytealg.MakeNoZero"], apart := false }
def ExtWritesSaid : Prop := extWritesRow.holds Try.pinned (OpenSpec.ofChange extWritesSpec)

/-- ITS FALSE NEIGHBOUR: 'it returns false'. Refute it at one input. -/
def extWritesWrong : ChangeSpec := { name := "extWrites", fn := fun _ => fun
  | [d] => { results := [.lit (.bool false)], args := [d] }
  | _ => none }
def ExtWritesWrongFalsely : Prop := extWritesRow.holds Try.pinned (OpenSpec.ofChange extWritesWrong)

/-- 'timesynclaw20.ExtBack': WHATEVER THE INPUT: true; the input reads as it did. -/
def extBackSpec : ChangeSpec := { name := "extBack", fn := fun _ => fun
  | [d1, d2, d3, d4] => { results := [.lit (.bool true)], args := [d1, d2, d3, d4] }
  | _ => none }
def extBackRow : OpenClaim := { program := "ytloopnfnbhdlmaa", sum := "9e81c64fa2557a550bc2f74f98ff3b0da6e0b9b8656c696e340eb062feb5ccc6", func := "timesync/timesynclaw20.ExtBack", spec := "extBack", inPlace := ["internal/bytealg.MakeNoZero"], apart := false }
def ExtBackSaid : Prop := extBackRow.holds Try.pinned (OpenSpec.ofChange extBackSpec)

/-- ITS FALSE NEIGHBOUR: 'it returns false'. Refute it at one input. -/
def extBackWrong : ChangeSpec := { name := "extBack", fn := fun _ => fun
  | [d1, d2, d3, d4] => { results := [.lit (.bool false)], args := [d1, d2, d3, d4] }
  | _ => none }
def ExtBackWrongFalsely : Prop := extBackRow.holds Try.pinned (OpenSpec.ofChange extBackWrong)

/-- 'timesynclaw20.ExtOwns': WHATEVER THE INPUT: true; the input reads as it did. -/
def extOwnsSpec : ChangeSpec := { name := "extOwns", fn := fun _ => fun
  | [d1, d2] => { results := [.lit (.bool true)], args := [d1, d2] }
  | _ => none }
def extOwnsRow : OpenClaim := { program := "ytloopnfnbhdlmaa", sum := "9e81c64fa2557a550bc2f74f98ff3b0da6e0b9b8656c696e340eb062feb5ccc6", func := "timesync/timesynclaw20.ExtOwns", spec := "extOwns", inPlace := ["internal/bytealg.MakeNoZero"], apart := false }
def ExtOwnsSaid : Prop := extOwnsRow.holds Try.pinned (OpenSpec.ofChange extOwnsSpec)

/-- ITS FALSE NEIGHBOUR: 'it returns false'. Refute it at one input. -/
def extOwnsWrong : ChangeSpec := { name := "extOwns", fn := fun _ => fun
  | [d1, d2] => { results := [.lit (.bool false)], args := [d1, d2] }
  | _ => none }
def ExtOwnsWrongFalsely : Prop := extOwnsRow.holds Try.pinned (OpenSpec.ofChange extOwnsWrong)

/- THE SECOND FORM. 'bulk': how many values and letters a reading holds, each counted each time it is reached (what is shared counts as often as it is met; a slice's spare places count too). A statement '..UptoSaid' is the law's where the arguments, and the package variables that the reading takes, are together of bulk at most 1048576: NARROWER than '..Said'. Prove '..Said' where nothing that the law and all that it calls make is longer than what came in: it says more and counts as full. Else prove '..UptoSaid'. A law counts once. -/
mutual
def uptoBulk {H : Type} : DataW H → Nat
  | .lit (.string bytes) => bytes.length + 1
  | .lit _ => 1
  | .nil => 1
  | .ptr d => uptoBulk d + 1
  | .slice elems spare => uptoBulkAll elems + uptoBulkAll spare + 1
  | .agg parts => uptoBulkAll parts + 1
  | .iface _ d => uptoBulk d + 1
  | .map entries => uptoBulkEntries entries + 1
  | .held _ => 1
def uptoBulkAll {H : Type} : List (DataW H) → Nat
  | [] => 0
  | d :: r => uptoBulk d + uptoBulkAll r
def uptoBulkEntries {H : Type} : List (Lit × DataW H) → Nat
  | [] => 0
  | x :: r => uptoBulkEntry x + uptoBulkEntries r
def uptoBulkEntry {H : Type} : Lit × DataW H → Nat
  | (.string bytes, d) => bytes.length + uptoBulk d + 1
  | (_, d) => uptoBulk d + 1
 end
def uptoSmall : (H : Type) → List (DataW H) → Bool := fun _ ds => decide (uptoBulkAll ds ≤ 1048576)
def OpenSpec.upto (s : _root_.Go.ChangeSpec) : _root_.Go.OpenSpec := { _root_.Go.OpenSpec.ofChange s with cond := some uptoSmall }

/-- 'timesynclaw20.ExtAppends', WHERE WHAT IT READS IS OF BULK AT MOST 1048576: true; the input reads as it did. -/
def extAppendsUptoRow : OpenClaim := { program := "ytloopnfnbhdlmaa", sum := "9e81c64fa2557a550bc2f74f98ff3b0da6e0b9b8656c696e340eb062feb5ccc6", func := "timesync/timesynclaw20.ExtAppends", spec := "extAppends", inPlace := ["internal/bytealg.MakeNoZero"], apart := false, narrowed := true }
def ExtAppendsUptoSaid : Prop := extAppendsUptoRow.holds Try.pinned (OpenSpec.upto extAppendsSpec)

/-- 'timesynclaw20.ExtParses', WHERE WHAT IT READS IS OF BULK AT MOST 1048576: true; the input reads as it did. -/
def extParsesUptoRow : OpenClaim := { program := "ytloopnfnbhdlmaa", sum := "9e81c64fa2557a550bc2f74f98ff3b0da6e0b9b8656c696e340eb062feb5ccc6", func := "timesync/timesynclaw20.ExtParses", spec := "extParses", inPlace := ["internal/bytealg.MakeNoZero"], apart := false, narrowed := true }
def ExtParsesUptoSaid : Prop := extParsesUptoRow.holds Try.pinned (OpenSpec.upto extParsesSpec)

/-- 'timesynclaw20.ExtWrites', WHERE WHAT IT READS IS OF BULK AT MOST 1048576: true; the input reads as it did. -/
def extWritesUptoRow : OpenClaim := { program := "ytloopnfnbhdlmaa", sum := "9e81c64fa2557a550bc2f74f98ff3b0da6e0b9b8656c696e340eb062feb5ccc6", func := "timesync/timesynclaw20.ExtWrites", spec := "extWrites", inPlace := ["internal/bytealg.MakeNoZero"], apart := false, narrowed := true }
def ExtWritesUptoSaid : Prop := extWritesUptoRow.holds Try.pinned (OpenSpec.upto extWritesSpec)

/-- 'timesynclaw20.ExtBack', WHERE WHAT IT READS IS OF BULK AT MOST 1048576: true; the input reads as it did. -/
def extBackUptoRow : OpenClaim := { program := "ytloopnfnbhdlmaa", sum := "9e81c64fa2557a550bc2f74f98ff3b0da6e0b9b8656c696e340eb062feb5ccc6", func := "timesync/timesynclaw20.ExtBack", spec := "extBack", inPlace := ["internal/bytealg.MakeNoZero"], apart := false, narrowed := true }
def ExtBackUptoSaid : Prop := extBackUptoRow.holds Try.pinned (OpenSpec.upto extBackSpec)

/-- 'timesynclaw20.ExtOwns', WHERE WHAT IT READS IS OF BULK AT MOST 1048576: true; the input reads as it did. -/
def extOwnsUptoRow : OpenClaim := { program := "ytloopnfnbhdlmaa", sum := "9e81c64fa2557a550bc2f74f98ff3b0da6e0b9b8656c696e340eb062feb5ccc6", func := "timesync/timesynclaw20.ExtOwns", spec := "extOwns", inPlace := ["internal/bytealg.MakeNoZero"], apart := false, narrowed := true }
def ExtOwnsUptoSaid : Prop := extOwnsUptoRow.holds Try.pinned (OpenSpec.upto extOwnsSpec)

end Rows
end Go.Proofs.Ytloopnfnbhdlmaa
