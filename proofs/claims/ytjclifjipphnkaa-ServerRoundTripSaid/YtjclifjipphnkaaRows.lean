/-
  No cell of these rows narrows 'for every input' (looked for: loops, veiled, ifaces, maps, wideKeys, modest, calm, conditions, laid).
  DERIVED. THE GIVEN ROWS OF THIS SEAT. 6 by the template 'for every input the law returns true; each argument reads behind the call as it read before'; 0 by the template 'total and deterministic' (their statements: YtjclifjipphnkaaTotals.lean).
  GIVEN WITH THE SEED: the statements are not yours to turn. If you find one false, say at which input.
  Laid BY PROGRAM, IN A SANDBOX (cutbox-rows.mjs): the forced cells as the released guide's own fill.sh prints them over the translation 2f5f182dc0ee934e… (all of the seat's roots in one cut). By AI agents, Wed Nov 11 2026. No macro, syntax, notation, axiom, sorry.
-/
import Derived.Test.YtjclifjipphnkaaChecked
import GoSem.Claim
import GoSem.ClaimJoined
import GoSem.ClaimMapViews
import Derived.JoinedTies
import Derived.KernelRfl
namespace Go.Proofs.Ytjclifjipphnkaa
/- THE CELL 'sum', in the pinned program and in every row, IS THE sha256 OF THE DUMP (.gsa) THAT YtjclifjipphnkaaProg.lean LOADS. Nothing in Lean hashes anything: it is a label: what it is worth is what the hold of that sum in a sandbox is worth. -/
noncomputable def Try.pinned : Pinned := { name := "ytjclifjipphnkaa", sum := "2f5f182dc0ee934eff4d8e8f2e5aea04bb029e631697972e18e28d85001deb12", checked := Try.checked }
namespace Rows
def none {H : Type} : Left H := { results := [], args := [] }

/-- 'timesynclaw30.ServerReplies': WHATEVER THE INPUT: true; the input reads as it did. -/
def serverRepliesSpec : ChangeSpec := { name := "serverReplies", fn := fun _ => fun
  | [d1, d2, d3, d4, d5] => { results := [.lit (.bool true)], args := [d1, d2, d3, d4, d5] }
  | _ => none }
def serverRepliesRow : OpenClaim := { program := "ytjclifjipphnkaa", sum := "2f5f182dc0ee934eff4d8e8f2e5aea04bb029e631697972e18e28d85001deb12", func := "timesync/timesynclaw30.ServerReplies", spec := "serverReplies", unfollowed := true, recurses := true, apart := false }
def ServerRepliesSaid : Prop := serverRepliesRow.holds Try.pinned (OpenSpec.ofChange serverRepliesSpec)

/-- ITS FALSE NEIGHBOUR: 'it returns false'. Refute it at one input. -/
def serverRepliesWrong : ChangeSpec := { name := "serverReplies", fn := fun _ => fun
  | [d1, d2, d3, d4, d5] => { results := [.lit (.bool false)], args := [d1, d2, d3, d4, d5] }
  | _ => none }
def ServerRepliesWrongFalsely : Prop := serverRepliesRow.holds Try.pinned (OpenSpec.ofChange serverRepliesWrong)

/-- 'timesynclaw30.ServerRoots': WHATEVER THE INPUT: true; the input reads as it did. -/
def serverRootsSpec : ChangeSpec := { name := "serverRoots", fn := fun _ => fun
  | [d1, d2, d3, d4] => { results := [.lit (.bool true)], args := [d1, d2, d3, d4] }
  | _ => none }
def serverRootsRow : OpenClaim := { program := "ytjclifjipphnkaa", sum := "2f5f182dc0ee934eff4d8e8f2e5aea04bb029e631697972e18e28d85001deb12", func := "timesync/timesynclaw30.ServerRoots", spec := "serverRoots", unfollowed := true, recurses := true, apart := false }
def ServerRootsSaid : Prop := serverRootsRow.holds Try.pinned (OpenSpec.ofChange serverRootsSpec)

/-- ITS FALSE NEIGHBOUR: 'it returns false'. Refute it at one input. -/
def serverRootsWrong : ChangeSpec := { name := "serverRoots", fn := fun _ => fun
  | [d1, d2, d3, d4] => { results := [.lit (.bool false)], args := [d1, d2, d3, d4] }
  | _ => none }
def ServerRootsWrongFalsely : Prop := serverRootsRow.holds Try.pinned (OpenSpec.ofChange serverRootsWrong)

/-- 'timesynclaw30.ServerKisses': WHATEVER THE INPUT: true; the input reads as it did. -/
def serverKissesSpec : ChangeSpec := { name := "serverKisses", fn := fun _ => fun
  | [d1, d2] => { results := [.lit (.bool true)], args := [d1, d2] }
  | _ => none }
def serverKissesRow : OpenClaim := { program := "ytjclifjipphnkaa", sum := "2f5f182dc0ee934eff4d8e8f2e5aea04bb029e631697972e18e28d85001deb12", func := "timesync/timesynclaw30.ServerKisses", spec := "serverKisses", unfollowed := true, recurses := true, apart := false }
def ServerKissesSaid : Prop := serverKissesRow.holds Try.pinned (OpenSpec.ofChange serverKissesSpec)

/-- ITS FALSE NEIGHBOUR: 'it returns false'. Refute it at one input. -/
def serverKissesWrong : ChangeSpec := { name := "serverKisses", fn := fun _ => fun
  | [d1, d2] => { results := [.lit (.bool false)], args := [d1, d2] }
  | _ => none }
def ServerKissesWrongFalsely : Prop := serverKissesRow.holds Try.pinned (OpenSpec.ofChange serverKissesWrong)

/-- 'timesynclaw30.ServerFields': WHATEVER THE INPUT: true; the input reads as it did. -/
def serverFieldsSpec : ChangeSpec := { name := "serverFields", fn := fun _ => fun
  | [d1, d2] => { results := [.lit (.bool true)], args := [d1, d2] }
  | _ => none }
def serverFieldsRow : OpenClaim := { program := "ytjclifjipphnkaa", sum := "2f5f182dc0ee934eff4d8e8f2e5aea04bb029e631697972e18e28d85001deb12", func := "timesync/timesynclaw30.ServerFields", spec := "serverFields", unfollowed := true, recurses := true, apart := false }
def ServerFieldsSaid : Prop := serverFieldsRow.holds Try.pinned (OpenSpec.ofChange serverFieldsSpec)

/-- ITS FALSE NEIGHBOUR: 'it returns false'. Refute it at one input. -/
def serverFieldsWrong : ChangeSpec := { name := "serverFields", fn := fun _ => fun
  | [d1, d2] => { results := [.lit (.bool false)], args := [d1, d2] }
  | _ => none }
def ServerFieldsWrongFalsely : Prop := serverFieldsRow.holds Try.pinned (OpenSpec.ofChange serverFieldsWrong)

/-- 'timesynclaw30.ServerRoundTrip': WHATEVER THE INPUT: true; the input reads as it did. -/
def serverRoundTripSpec : ChangeSpec := { name := "serverRoundTrip", fn := fun _ => fun
  | [d1, d2, d3] => { results := [.lit (.bool true)], args := [d1, d2, d3] }
  | _ => none }
def serverRoundTripRow : OpenClaim := { program := "ytjclifjipphnkaa", sum := "2f5f182dc0ee934eff4d8e8f2e5aea04bb029e631697972e18e28d85001deb12", func := "timesync/timesynclaw30.ServerRoundTrip", spec := "serverRoundTrip", unfollowed := true, recurses := true, apart := false }
def ServerRoundTripSaid : Prop := serverRoundTripRow.holds Try.pinned (OpenSpec.ofChange serverRoundTripSpec)

/-- ITS FALSE NEIGHBOUR: 'it returns false'. Refute it at one input. -/
def serverRoundTripWrong : ChangeSpec := { name := "serverRoundTrip", fn := fun _ => fun
  | [d1, d2, d3] => { results := [.lit (.bool false)], args := [d1, d2, d3] }
  | _ => none }
def ServerRoundTripWrongFalsely : Prop := serverRoundTripRow.holds Try.pinned (OpenSpec.ofChange serverRoundTripWrong)

/-- 'timesynclaw30.ServerEchoes': WHATEVER THE INPUT: true; the input reads as it did. -/
def serverEchoesSpec : ChangeSpec := { name := "serverEchoes", fn := fun _ => fun
  | [d1, d2, d3, d4, d5] => { results := [.lit (.bool true)], args := [d1, d2, d3, d4, d5] }
  | _ => none }
def serverEchoesRow : OpenClaim := { program := "ytjclifjipphnkaa", sum := "2f5f182dc0ee934eff4d8e8f2e5aea04bb029e631697972e18e28d85001deb12", func := "timesync/timesynclaw30.ServerEchoes", spec := "serverEchoes", unfollowed := true, recurses := true, apart := false }
def ServerEchoesSaid : Prop := serverEchoesRow.holds Try.pinned (OpenSpec.ofChange serverEchoesSpec)

/-- ITS FALSE NEIGHBOUR: 'it returns false'. Refute it at one input. -/
def serverEchoesWrong : ChangeSpec := { name := "serverEchoes", fn := fun _ => fun
  | [d1, d2, d3, d4, d5] => { results := [.lit (.bool false)], args := [d1, d2, d3, d4, d5] }
  | _ => none }
def ServerEchoesWrongFalsely : Prop := serverEchoesRow.holds Try.pinned (OpenSpec.ofChange serverEchoesWrong)

/- THE SECOND FORM. 'bulk': how many values and letters a reading holds, each counted each time it is reached (what is shared counts as often as it is met; a slice's spare places count too). A statement '..UptoSaid' is the law's where the arguments, and the package variables that the reading takes, are together of bulk at most 1048576: NARROWER than '..Said'. Prove '..Said' where nothing that the law and all that it calls make is longer than what came in: it says more and counts as full. Else prove '..UptoSaid'. A law counts once. -/
mutual
def uptoBulk {H : Type} : DataW H → Nat
  | .lit (.string bytes) => bytes.length + 1
  | .lit _ => 1
  | .nil => 1
  | .ptr d => uptoBulk d + 1
  | .slice elems spare => uptoBulkAll elems + uptoBulkAll spare + 1
  | .agg parts => uptoBulkAll parts + 1
  | .iface _ d => uptoBulk d + 1
  | .map entries => uptoBulkEntries entries + 1
  | .held _ => 1
def uptoBulkAll {H : Type} : List (DataW H) → Nat
  | [] => 0
  | d :: r => uptoBulk d + uptoBulkAll r
def uptoBulkEntries {H : Type} : List (Lit × DataW H) → Nat
  | [] => 0
  | x :: r => uptoBulkEntry x + uptoBulkEntries r
def uptoBulkEntry {H : Type} : Lit × DataW H → Nat
  | (.string bytes, d) => bytes.length + uptoBulk d + 1
  | (_, d) => uptoBulk d + 1
 end
def uptoSmall : (H : Type) → List (DataW H) → Bool := fun _ ds => decide (uptoBulkAll ds ≤ 1048576)
def OpenSpec.upto (s : _root_.Go.ChangeSpec) : _root_.Go.OpenSpec := { _root_.Go.OpenSpec.ofChange s with cond := some uptoSmall }

/-- 'timesynclaw30.ServerReplies', WHERE WHAT IT READS IS OF BULK AT MOST 1048576: true; the input reads as it did. -/
def serverRepliesUptoRow : OpenClaim := { program := "ytjclifjipphnkaa", sum := "2f5f182dc0ee934eff4d8e8f2e5aea04bb029e631697972e18e28d85001deb12", func := "timesync/timesynclaw30.ServerReplies", spec := "serverReplies", unfollowed := true, recurses := true, apart := false, narrowed := true }
def ServerRepliesUptoSaid : Prop := serverRepliesUptoRow.holds Try.pinned (OpenSpec.upto serverRepliesSpec)

/-- 'timesynclaw30.ServerRoots', WHERE WHAT IT READS IS OF BULK AT MOST 1048576: true; the input reads as it did. -/
def serverRootsUptoRow : OpenClaim := { program := "ytjclifjipphnkaa", sum := "2f5f182dc0ee934eff4d8e8f2e5aea04bb029e631697972e18e28d85001deb12", func := "timesync/timesynclaw30.ServerRoots", spec := "serverRoots", unfollowed := true, recurses := true, apart := false, narrowed := true }
def ServerRootsUptoSaid : Prop := serverRootsUptoRow.holds Try.pinned (OpenSpec.upto serverRootsSpec)

/-- 'timesynclaw30.ServerKisses', WHERE WHAT IT READS IS OF BULK AT MOST 1048576: true; the input reads as it did. -/
def serverKissesUptoRow : OpenClaim := { program := "ytjclifjipphnkaa", sum := "2f5f182dc0ee934eff4d8e8f2e5aea04bb029e631697972e18e28d85001deb12", func := "timesync/timesynclaw30.ServerKisses", spec := "serverKisses", unfollowed := true, recurses := true, apart := false, narrowed := true }
def ServerKissesUptoSaid : Prop := serverKissesUptoRow.holds Try.pinned (OpenSpec.upto serverKissesSpec)

/-- 'timesynclaw30.ServerFields', WHERE WHAT IT READS IS OF BULK AT MOST 1048576: true; the input reads as it did. -/
def serverFieldsUptoRow : OpenClaim := { program := "ytjclifjipphnkaa", sum := "2f5f182dc0ee934eff4d8e8f2e5aea04bb029e631697972e18e28d85001deb12", func := "timesync/timesynclaw30.ServerFields", spec := "serverFields", unfollowed := true, recurses := true, apart := false, narrowed := true }
def ServerFieldsUptoSaid : Prop := serverFieldsUptoRow.holds Try.pinned (OpenSpec.upto serverFieldsSpec)

/-- 'timesynclaw30.ServerRoundTrip', WHERE WHAT IT READS IS OF BULK AT MOST 1048576: true; the input reads as it did. -/
def serverRoundTripUptoRow : OpenClaim := { program := "ytjclifjipphnkaa", sum := "2f5f182dc0ee934eff4d8e8f2e5aea04bb029e631697972e18e28d85001deb12", func := "timesync/timesynclaw30.ServerRoundTrip", spec := "serverRoundTrip", unfollowed := true, recurses := true, apart := false, narrowed := true }
def ServerRoundTripUptoSaid : Prop := serverRoundTripUptoRow.holds Try.pinned (OpenSpec.upto serverRoundTripSpec)

/-- 'timesynclaw30.ServerEchoes', WHERE WHAT IT READS IS OF BULK AT MOST 1048576: true; the input reads as it did. -/
def serverEchoesUptoRow : OpenClaim := { program := "ytjclifjipphnkaa", sum := "2f5f182dc0ee934eff4d8e8f2e5aea04bb029e631697972e18e28d85001deb12", func := "timesync/timesynclaw30.ServerEchoes", spec := "serverEchoes", unfollowed := true, recurses := true, apart := false, narrowed := true }
def ServerEchoesUptoSaid : Prop := serverEchoesUptoRow.holds Try.pinned (OpenSpec.upto serverEchoesSpec)

end Rows
end Go.Proofs.Ytjclifjipphnkaa
