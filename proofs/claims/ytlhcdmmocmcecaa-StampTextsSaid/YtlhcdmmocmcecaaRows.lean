/-
  No cell of these rows narrows 'for every input' (looked for: loops, veiled, ifaces, maps, wideKeys, modest, calm, conditions, laid).
  DERIVED. THE GIVEN ROWS OF THIS SEAT. 9 by the template 'for every input the law returns true; each argument reads behind the call as it read before'; 0 by the template 'total and deterministic' (their statements: YtlhcdmmocmcecaaTotals.lean).
  GIVEN WITH THE SEED: the statements are not yours to turn. If you find one false, say at which input.
  Laid BY PROGRAM, IN A SANDBOX (cutbox-rows.mjs): the forced cells as the released guide's own fill.sh prints them over the translation 6c7c643d2a8ff83b… (all of the seat's roots in one cut). By AI agents, Wed Nov 11 2026. No macro, syntax, notation, axiom, sorry.
-/
import Derived.Test.YtlhcdmmocmcecaaChecked
import GoSem.Claim
import GoSem.ClaimJoined
import GoSem.ClaimMapViews
import Derived.JoinedTies
import Derived.KernelRfl
namespace Go.Proofs.Ytlhcdmmocmcecaa
/- THE CELL 'sum', in the pinned program and in every row, IS THE sha256 OF THE DUMP (.gsa) THAT YtlhcdmmocmcecaaProg.lean LOADS. Nothing in Lean hashes anything: it is a label: what it is worth is what the hold of that sum in a sandbox is worth. -/
noncomputable def Try.pinned : Pinned := { name := "ytlhcdmmocmcecaa", sum := "6c7c643d2a8ff83b3f78b871d50cbfb458123ac4326ba8bb8873bdbe8abb5c3a", checked := Try.checked }
namespace Rows
def none {H : Type} : Left H := { results := [], args := [] }

/-- 'timesynclaw03.StampOf': WHATEVER THE INPUT: true; the input reads as it did. -/
def stampOfSpec : ChangeSpec := { name := "stampOf", fn := fun _ => fun
  | [d] => { results := [.lit (.bool true)], args := [d] }
  | _ => none }
def stampOfRow : OpenClaim := { program := "ytlhcdmmocmcecaa", sum := "6c7c643d2a8ff83b3f78b871d50cbfb458123ac4326ba8bb8873bdbe8abb5c3a", func := "timesync/timesynclaw03.StampOf", spec := "stampOf", inPlace := ["internal/bytealg.IndexByteString"], apart := false }
def StampOfSaid : Prop := stampOfRow.holds Try.pinned (OpenSpec.ofChange stampOfSpec)

/-- ITS FALSE NEIGHBOUR: 'it returns false'. Refute it at one input. -/
def stampOfWrong : ChangeSpec := { name := "stampOf", fn := fun _ => fun
  | [d] => { results := [.lit (.bool false)], args := [d] }
  | _ => none }
def StampOfWrongFalsely : Prop := stampOfRow.holds Try.pinned (OpenSpec.ofChange stampOfWrong)

/-- 'timesynclaw03.StampTime': WHATEVER THE INPUT: true; the input reads as it did. -/
def stampTimeSpec : ChangeSpec := { name := "stampTime", fn := fun _ => fun
  | [d1, d2] => { results := [.lit (.bool true)], args := [d1, d2] }
  | _ => none }
def stampTimeRow : OpenClaim := { program := "ytlhcdmmocmcecaa", sum := "6c7c643d2a8ff83b3f78b871d50cbfb458123ac4326ba8bb8873bdbe8abb5c3a", func := "timesync/timesynclaw03.StampTime", spec := "stampTime", inPlace := ["internal/bytealg.IndexByteString"], apart := false }
def StampTimeSaid : Prop := stampTimeRow.holds Try.pinned (OpenSpec.ofChange stampTimeSpec)

/-- ITS FALSE NEIGHBOUR: 'it returns false'. Refute it at one input. -/
def stampTimeWrong : ChangeSpec := { name := "stampTime", fn := fun _ => fun
  | [d1, d2] => { results := [.lit (.bool false)], args := [d1, d2] }
  | _ => none }
def StampTimeWrongFalsely : Prop := stampTimeRow.holds Try.pinned (OpenSpec.ofChange stampTimeWrong)

/-- 'timesynclaw03.StampBack': WHATEVER THE INPUT: true; the input reads as it did. -/
def stampBackSpec : ChangeSpec := { name := "stampBack", fn := fun _ => fun
  | [d1, d2] => { results := [.lit (.bool true)], args := [d1, d2] }
  | _ => none }
def stampBackRow : OpenClaim := { program := "ytlhcdmmocmcecaa", sum := "6c7c643d2a8ff83b3f78b871d50cbfb458123ac4326ba8bb8873bdbe8abb5c3a", func := "timesync/timesynclaw03.StampBack", spec := "stampBack", inPlace := ["internal/bytealg.IndexByteString"], apart := false }
def StampBackSaid : Prop := stampBackRow.holds Try.pinned (OpenSpec.ofChange stampBackSpec)

/-- ITS FALSE NEIGHBOUR: 'it returns false'. Refute it at one input. -/
def stampBackWrong : ChangeSpec := { name := "stampBack", fn := fun _ => fun
  | [d1, d2] => { results := [.lit (.bool false)], args := [d1, d2] }
  | _ => none }
def StampBackWrongFalsely : Prop := stampBackRow.holds Try.pinned (OpenSpec.ofChange stampBackWrong)

/-- 'timesynclaw03.StampNearest': WHATEVER THE INPUT: true; the input reads as it did. -/
def stampNearestSpec : ChangeSpec := { name := "stampNearest", fn := fun _ => fun
  | [d1, d2] => { results := [.lit (.bool true)], args := [d1, d2] }
  | _ => none }
def stampNearestRow : OpenClaim := { program := "ytlhcdmmocmcecaa", sum := "6c7c643d2a8ff83b3f78b871d50cbfb458123ac4326ba8bb8873bdbe8abb5c3a", func := "timesync/timesynclaw03.StampNearest", spec := "stampNearest", inPlace := ["internal/bytealg.IndexByteString"], apart := false }
def StampNearestSaid : Prop := stampNearestRow.holds Try.pinned (OpenSpec.ofChange stampNearestSpec)

/-- ITS FALSE NEIGHBOUR: 'it returns false'. Refute it at one input. -/
def stampNearestWrong : ChangeSpec := { name := "stampNearest", fn := fun _ => fun
  | [d1, d2] => { results := [.lit (.bool false)], args := [d1, d2] }
  | _ => none }
def StampNearestWrongFalsely : Prop := stampNearestRow.holds Try.pinned (OpenSpec.ofChange stampNearestWrong)

/-- 'timesynclaw03.StampDiffers': WHATEVER THE INPUT: true; the input reads as it did. -/
def stampDiffersSpec : ChangeSpec := { name := "stampDiffers", fn := fun _ => fun
  | [d1, d2, d3] => { results := [.lit (.bool true)], args := [d1, d2, d3] }
  | _ => none }
def stampDiffersRow : OpenClaim := { program := "ytlhcdmmocmcecaa", sum := "6c7c643d2a8ff83b3f78b871d50cbfb458123ac4326ba8bb8873bdbe8abb5c3a", func := "timesync/timesynclaw03.StampDiffers", spec := "stampDiffers", inPlace := ["internal/bytealg.IndexByteString"], apart := false }
def StampDiffersSaid : Prop := stampDiffersRow.holds Try.pinned (OpenSpec.ofChange stampDiffersSpec)

/-- ITS FALSE NEIGHBOUR: 'it returns false'. Refute it at one input. -/
def stampDiffersWrong : ChangeSpec := { name := "stampDiffers", fn := fun _ => fun
  | [d1, d2, d3] => { results := [.lit (.bool false)], args := [d1, d2, d3] }
  | _ => none }
def StampDiffersWrongFalsely : Prop := stampDiffersRow.holds Try.pinned (OpenSpec.ofChange stampDiffersWrong)

/-- 'timesynclaw03.StampUnits': WHATEVER THE INPUT: true; the input reads as it did. -/
def stampUnitsSpec : ChangeSpec := { name := "stampUnits", fn := fun _ => fun
  | [d1, d2] => { results := [.lit (.bool true)], args := [d1, d2] }
  | _ => none }
def stampUnitsRow : OpenClaim := { program := "ytlhcdmmocmcecaa", sum := "6c7c643d2a8ff83b3f78b871d50cbfb458123ac4326ba8bb8873bdbe8abb5c3a", func := "timesync/timesynclaw03.StampUnits", spec := "stampUnits", inPlace := ["internal/bytealg.IndexByteString"], apart := false }
def StampUnitsSaid : Prop := stampUnitsRow.holds Try.pinned (OpenSpec.ofChange stampUnitsSpec)

/-- ITS FALSE NEIGHBOUR: 'it returns false'. Refute it at one input. -/
def stampUnitsWrong : ChangeSpec := { name := "stampUnits", fn := fun _ => fun
  | [d1, d2] => { results := [.lit (.bool false)], args := [d1, d2] }
  | _ => none }
def StampUnitsWrongFalsely : Prop := stampUnitsRow.holds Try.pinned (OpenSpec.ofChange stampUnitsWrong)

/-- 'timesynclaw03.StampShort': WHATEVER THE INPUT: true; the input reads as it did. -/
def stampShortSpec : ChangeSpec := { name := "stampShort", fn := fun _ => fun
  | [d1, d2] => { results := [.lit (.bool true)], args := [d1, d2] }
  | _ => none }
def stampShortRow : OpenClaim := { program := "ytlhcdmmocmcecaa", sum := "6c7c643d2a8ff83b3f78b871d50cbfb458123ac4326ba8bb8873bdbe8abb5c3a", func := "timesync/timesynclaw03.StampShort", spec := "stampShort", inPlace := ["internal/bytealg.IndexByteString"], apart := false }
def StampShortSaid : Prop := stampShortRow.holds Try.pinned (OpenSpec.ofChange stampShortSpec)

/-- ITS FALSE NEIGHBOUR: 'it returns false'. Refute it at one input. -/
def stampShortWrong : ChangeSpec := { name := "stampShort", fn := fun _ => fun
  | [d1, d2] => { results := [.lit (.bool false)], args := [d1, d2] }
  | _ => none }
def StampShortWrongFalsely : Prop := stampShortRow.holds Try.pinned (OpenSpec.ofChange stampShortWrong)

/-- 'timesynclaw03.StampTexts': WHATEVER THE INPUT: true; the input reads as it did. -/
def stampTextsSpec : ChangeSpec := { name := "stampTexts", fn := fun _ => fun
  | [d1, d2] => { results := [.lit (.bool true)], args := [d1, d2] }
  | _ => none }
def stampTextsRow : OpenClaim := { program := "ytlhcdmmocmcecaa", sum := "6c7c643d2a8ff83b3f78b871d50cbfb458123ac4326ba8bb8873bdbe8abb5c3a", func := "timesync/timesynclaw03.StampTexts", spec := "stampTexts", inPlace := ["internal/bytealg.IndexByteString"], apart := false }
def StampTextsSaid : Prop := stampTextsRow.holds Try.pinned (OpenSpec.ofChange stampTextsSpec)

/-- ITS FALSE NEIGHBOUR: 'it returns false'. Refute it at one input. -/
def stampTextsWrong : ChangeSpec := { name := "stampTexts", fn := fun _ => fun
  | [d1, d2] => { results := [.lit (.bool false)], args := [d1, d2] }
  | _ => none }
def StampTextsWrongFalsely : Prop := stampTextsRow.holds Try.pinned (OpenSpec.ofChange stampTextsWrong)

/-- 'timesynclaw03.StampOrder': WHATEVER THE INPUT: true; the input reads as it did. -/
def stampOrderSpec : ChangeSpec := { name := "stampOrder", fn := fun _ => fun
  | [d1, d2] => { results := [.lit (.bool true)], args := [d1, d2] }
  | _ => none }
def stampOrderRow : OpenClaim := { program := "ytlhcdmmocmcecaa", sum := "6c7c643d2a8ff83b3f78b871d50cbfb458123ac4326ba8bb8873bdbe8abb5c3a", func := "timesync/timesynclaw03.StampOrder", spec := "stampOrder", inPlace := ["internal/bytealg.IndexByteString"], apart := false }
def StampOrderSaid : Prop := stampOrderRow.holds Try.pinned (OpenSpec.ofChange stampOrderSpec)

/-- ITS FALSE NEIGHBOUR: 'it returns false'. Refute it at one input. -/
def stampOrderWrong : ChangeSpec := { name := "stampOrder", fn := fun _ => fun
  | [d1, d2] => { results := [.lit (.bool false)], args := [d1, d2] }
  | _ => none }
def StampOrderWrongFalsely : Prop := stampOrderRow.holds Try.pinned (OpenSpec.ofChange stampOrderWrong)

/- THE SECOND FORM. 'bulk': how many values and letters a reading holds, each counted each time it is reached (what is shared counts as often as it is met; a slice's spare places count too). A statement '..UptoSaid' is the law's where the arguments, and the package variables that the reading takes, are together of bulk at most 1048576: NARROWER than '..Said'. Prove '..Said' where nothing that the law and all that it calls make is longer than what came in: it says more and counts as full. Else prove '..UptoSaid'. A law counts once. -/
mutual
def uptoBulk {H : Type} : DataW H → Nat
  | .lit (.string bytes) => bytes.length + 1
  | .lit _ => 1
  | .nil => 1
  | .ptr d => uptoBulk d + 1
  | .slice elems spare => uptoBulkAll elems + uptoBulkAll spare + 1
  | .agg parts => uptoBulkAll parts + 1
  | .iface _ d => uptoBulk d + 1
  | .map entries => uptoBulkEntries entries + 1
  | .held _ => 1
def uptoBulkAll {H : Type} : List (DataW H) → Nat
  | [] => 0
  | d :: r => uptoBulk d + uptoBulkAll r
def uptoBulkEntries {H : Type} : List (Lit × DataW H) → Nat
  | [] => 0
  | x :: r => uptoBulkEntry x + uptoBulkEntries r
def uptoBulkEntry {H : Type} : Lit × DataW H → Nat
  | (.string bytes, d) => bytes.length + uptoBulk d + 1
  | (_, d) => uptoBulk d + 1
 end
def uptoSmall : (H : Type) → List (DataW H) → Bool := fun _ ds => decide (uptoBulkAll ds ≤ 1048576)
def OpenSpec.upto (s : _root_.Go.ChangeSpec) : _root_.Go.OpenSpec := { _root_.Go.OpenSpec.ofChange s with cond := some uptoSmall }

/-- 'timesynclaw03.StampOf', WHERE WHAT IT READS IS OF BULK AT MOST 1048576: true; the input reads as it did. -/
def stampOfUptoRow : OpenClaim := { program := "ytlhcdmmocmcecaa", sum := "6c7c643d2a8ff83b3f78b871d50cbfb458123ac4326ba8bb8873bdbe8abb5c3a", func := "timesync/timesynclaw03.StampOf", spec := "stampOf", inPlace := ["internal/bytealg.IndexByteString"], apart := false, narrowed := true }
def StampOfUptoSaid : Prop := stampOfUptoRow.holds Try.pinned (OpenSpec.upto stampOfSpec)

/-- 'timesynclaw03.StampTime', WHERE WHAT IT READS IS OF BULK AT MOST 1048576: true; the input reads as it did. -/
def stampTimeUptoRow : OpenClaim := { program := "ytlhcdmmocmcecaa", sum := "6c7c643d2a8ff83b3f78b871d50cbfb458123ac4326ba8bb8873bdbe8abb5c3a", func := "timesync/timesynclaw03.StampTime", spec := "stampTime", inPlace := ["internal/bytealg.IndexByteString"], apart := false, narrowed := true }
def StampTimeUptoSaid : Prop := stampTimeUptoRow.holds Try.pinned (OpenSpec.upto stampTimeSpec)

/-- 'timesynclaw03.StampBack', WHERE WHAT IT READS IS OF BULK AT MOST 1048576: true; the input reads as it did. -/
def stampBackUptoRow : OpenClaim := { program := "ytlhcdmmocmcecaa", sum := "6c7c643d2a8ff83b3f78b871d50cbfb458123ac4326ba8bb8873bdbe8abb5c3a", func := "timesync/timesynclaw03.StampBack", spec := "stampBack", inPlace := ["internal/bytealg.IndexByteString"], apart := false, narrowed := true }
def StampBackUptoSaid : Prop := stampBackUptoRow.holds Try.pinned (OpenSpec.upto stampBackSpec)

/-- 'timesynclaw03.StampNearest', WHERE WHAT IT READS IS OF BULK AT MOST 1048576: true; the input reads as it did. -/
def stampNearestUptoRow : OpenClaim := { program := "ytlhcdmmocmcecaa", sum := "6c7c643d2a8ff83b3f78b871d50cbfb458123ac4326ba8bb8873bdbe8abb5c3a", func := "timesync/timesynclaw03.StampNearest", spec := "stampNearest", inPlace := ["internal/bytealg.IndexByteString"], apart := false, narrowed := true }
def StampNearestUptoSaid : Prop := stampNearestUptoRow.holds Try.pinned (OpenSpec.upto stampNearestSpec)

/-- 'timesynclaw03.StampDiffers', WHERE WHAT IT READS IS OF BULK AT MOST 1048576: true; the input reads as it did. -/
def stampDiffersUptoRow : OpenClaim := { program := "ytlhcdmmocmcecaa", sum := "6c7c643d2a8ff83b3f78b871d50cbfb458123ac4326ba8bb8873bdbe8abb5c3a", func := "timesync/timesynclaw03.StampDiffers", spec := "stampDiffers", inPlace := ["internal/bytealg.IndexByteString"], apart := false, narrowed := true }
def StampDiffersUptoSaid : Prop := stampDiffersUptoRow.holds Try.pinned (OpenSpec.upto stampDiffersSpec)

/-- 'timesynclaw03.StampUnits', WHERE WHAT IT READS IS OF BULK AT MOST 1048576: true; the input reads as it did. -/
def stampUnitsUptoRow : OpenClaim := { program := "ytlhcdmmocmcecaa", sum := "6c7c643d2a8ff83b3f78b871d50cbfb458123ac4326ba8bb8873bdbe8abb5c3a", func := "timesync/timesynclaw03.StampUnits", spec := "stampUnits", inPlace := ["internal/bytealg.IndexByteString"], apart := false, narrowed := true }
def StampUnitsUptoSaid : Prop := stampUnitsUptoRow.holds Try.pinned (OpenSpec.upto stampUnitsSpec)

/-- 'timesynclaw03.StampShort', WHERE WHAT IT READS IS OF BULK AT MOST 1048576: true; the input reads as it did. -/
def stampShortUptoRow : OpenClaim := { program := "ytlhcdmmocmcecaa", sum := "6c7c643d2a8ff83b3f78b871d50cbfb458123ac4326ba8bb8873bdbe8abb5c3a", func := "timesync/timesynclaw03.StampShort", spec := "stampShort", inPlace := ["internal/bytealg.IndexByteString"], apart := false, narrowed := true }
def StampShortUptoSaid : Prop := stampShortUptoRow.holds Try.pinned (OpenSpec.upto stampShortSpec)

/-- 'timesynclaw03.StampTexts', WHERE WHAT IT READS IS OF BULK AT MOST 1048576: true; the input reads as it did. -/
def stampTextsUptoRow : OpenClaim := { program := "ytlhcdmmocmcecaa", sum := "6c7c643d2a8ff83b3f78b871d50cbfb458123ac4326ba8bb8873bdbe8abb5c3a", func := "timesync/timesynclaw03.StampTexts", spec := "stampTexts", inPlace := ["internal/bytealg.IndexByteString"], apart := false, narrowed := true }
def StampTextsUptoSaid : Prop := stampTextsUptoRow.holds Try.pinned (OpenSpec.upto stampTextsSpec)

/-- 'timesynclaw03.StampOrder', WHERE WHAT IT READS IS OF BULK AT MOST 1048576: true; the input reads as it did. -/
def stampOrderUptoRow : OpenClaim := { program := "ytlhcdmmocmcecaa", sum := "6c7c643d2a8ff83b3f78b871d50cbfb458123ac4326ba8bb8873bdbe8abb5c3a", func := "timesync/timesynclaw03.StampOrder", spec := "stampOrder", inPlace := ["internal/bytealg.IndexByteString"], apart := false, narrowed := true }
def StampOrderUptoSaid : Prop := stampOrderUptoRow.holds Try.pinned (OpenSpec.upto stampOrderSpec)

end Rows
end Go.Proofs.Ytlhcdmmocmcecaa
