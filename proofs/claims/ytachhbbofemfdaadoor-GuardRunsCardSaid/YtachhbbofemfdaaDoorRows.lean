/-
  NARROWER THAN 'FOR EVERY INPUT', by the rows' own cells (each row's printed sentence says how): GuardOpens: laid · GuardReplies: laid · GuardTrips: laid · GuardWaits: laid · GuardNobody: laid · GuardChanged: laid · GuardRuns: laid.
  DERIVED. THE GIVEN ROWS OF THIS SEAT. 7 by the template 'for every input the law returns true; each argument reads behind the call as it read before'; 0 by the template 'total and deterministic' (their statements: YtachhbbofemfdaaDoorTotals.lean).
  GIVEN WITH THE SEED: the statements are not yours to turn. If you find one false, say at which input.
  Laid BY PROGRAM, IN A SANDBOX (cutbox-rows.mjs): the forced cells as the released guide's own fill.sh prints them over the translation 8ccf5ad9f538710c… (all of the seat's roots in one cut). By AI agents, Wed Nov 11 2026. No macro, syntax, notation, axiom, sorry.
-/
import Derived.Test.YtachhbbofemfdaaDoorChecked
import GoSem.Claim
import GoSem.ClaimJoined
import GoSem.ClaimMapViews
import Derived.JoinedTies
import Derived.KernelRfl
namespace Go.Proofs.YtachhbbofemfdaaDoor
/- THE CELL 'sum', in the pinned program and in every row, IS THE sha256 OF THE DUMP (.gsa) THAT YtachhbbofemfdaaDoorProg.lean LOADS. Nothing in Lean hashes anything: it is a label: what it is worth is what the hold of that sum in a sandbox is worth. -/
noncomputable def Tryd.pinned : Pinned := { name := "ytachhbbofemfdaadoor", sum := "8ccf5ad9f538710cc9b0182d94e2554f2cff957f15f0fd47b73505669bd7d646", checked := Tryd.checked }
namespace Rows
def none {H : Type} : Left H := { results := [], args := [] }

/- WHAT THE LISTED PACKAGE-LEVEL VARIABLES READ AS WHEN THE CALL BEGINS. Each datum BY PROGRAM (the guide's laid-datum.mjs) off the statement by which the dump's own 'gosem.cut.vars' lays the variable. In a bare row this is a premise. The card (YtachhbbofemfdaaDoorCards.lean) ties it to the program's text. -/
def laid_timesync_prng_rounds {H : Type} : DataW H := .agg [.agg [.lit (.int .u64 30), .lit (.int .u64 13787848793156543929)], .agg [.lit (.int .u64 27), .lit (.int .u64 10723151780598845931)], .agg [.lit (.int .u64 31), .lit (.int .u64 1)]]

/-- 'timesynclaw47.GuardOpens': WHATEVER THE INPUT: true; the input reads as it did. -/
def guardOpensSpec : ChangeSpec := { name := "guardOpens", fn := fun _ => fun
  | [d1, d2] => { results := [.lit (.bool true)], args := [d1, d2] }
  | _ => none }
def guardOpensRow : OpenClaim := { program := "ytachhbbofemfdaadoor", sum := "8ccf5ad9f538710cc9b0182d94e2554f2cff957f15f0fd47b73505669bd7d646", func := "timesync/timesynclaw47.GuardOpens", spec := "guardOpens", unfollowed := true, recurses := true, named := ["timesync/prng.rounds"], apart := false, laid := [("timesync/prng.rounds", laid_timesync_prng_rounds)] }
def GuardOpensSaid : Prop := guardOpensRow.holds Tryd.pinned (OpenSpec.ofChange guardOpensSpec)

/-- ITS FALSE NEIGHBOUR: 'it returns false'. Refute it at one input. -/
def guardOpensWrong : ChangeSpec := { name := "guardOpens", fn := fun _ => fun
  | [d1, d2] => { results := [.lit (.bool false)], args := [d1, d2] }
  | _ => none }
def GuardOpensWrongFalsely : Prop := guardOpensRow.holds Tryd.pinned (OpenSpec.ofChange guardOpensWrong)

/-- 'timesynclaw47.GuardReplies': WHATEVER THE INPUT: true; the input reads as it did. -/
def guardRepliesSpec : ChangeSpec := { name := "guardReplies", fn := fun _ => fun
  | [d1, d2, d3, d4, d5] => { results := [.lit (.bool true)], args := [d1, d2, d3, d4, d5] }
  | _ => none }
def guardRepliesRow : OpenClaim := { program := "ytachhbbofemfdaadoor", sum := "8ccf5ad9f538710cc9b0182d94e2554f2cff957f15f0fd47b73505669bd7d646", func := "timesync/timesynclaw47.GuardReplies", spec := "guardReplies", unfollowed := true, recurses := true, named := ["timesync/prng.rounds"], apart := false, laid := [("timesync/prng.rounds", laid_timesync_prng_rounds)] }
def GuardRepliesSaid : Prop := guardRepliesRow.holds Tryd.pinned (OpenSpec.ofChange guardRepliesSpec)

/-- ITS FALSE NEIGHBOUR: 'it returns false'. Refute it at one input. -/
def guardRepliesWrong : ChangeSpec := { name := "guardReplies", fn := fun _ => fun
  | [d1, d2, d3, d4, d5] => { results := [.lit (.bool false)], args := [d1, d2, d3, d4, d5] }
  | _ => none }
def GuardRepliesWrongFalsely : Prop := guardRepliesRow.holds Tryd.pinned (OpenSpec.ofChange guardRepliesWrong)

/-- 'timesynclaw47.GuardTrips': WHATEVER THE INPUT: true; the input reads as it did. -/
def guardTripsSpec : ChangeSpec := { name := "guardTrips", fn := fun _ => fun
  | [d1, d2, d3, d4, d5, d6] => { results := [.lit (.bool true)], args := [d1, d2, d3, d4, d5, d6] }
  | _ => none }
def guardTripsRow : OpenClaim := { program := "ytachhbbofemfdaadoor", sum := "8ccf5ad9f538710cc9b0182d94e2554f2cff957f15f0fd47b73505669bd7d646", func := "timesync/timesynclaw47.GuardTrips", spec := "guardTrips", unfollowed := true, recurses := true, named := ["timesync/prng.rounds"], apart := false, laid := [("timesync/prng.rounds", laid_timesync_prng_rounds)] }
def GuardTripsSaid : Prop := guardTripsRow.holds Tryd.pinned (OpenSpec.ofChange guardTripsSpec)

/-- ITS FALSE NEIGHBOUR: 'it returns false'. Refute it at one input. -/
def guardTripsWrong : ChangeSpec := { name := "guardTrips", fn := fun _ => fun
  | [d1, d2, d3, d4, d5, d6] => { results := [.lit (.bool false)], args := [d1, d2, d3, d4, d5, d6] }
  | _ => none }
def GuardTripsWrongFalsely : Prop := guardTripsRow.holds Tryd.pinned (OpenSpec.ofChange guardTripsWrong)

/-- 'timesynclaw47.GuardWaits': WHATEVER THE INPUT: true; the input reads as it did. -/
def guardWaitsSpec : ChangeSpec := { name := "guardWaits", fn := fun _ => fun
  | [d1, d2, d3, d4] => { results := [.lit (.bool true)], args := [d1, d2, d3, d4] }
  | _ => none }
def guardWaitsRow : OpenClaim := { program := "ytachhbbofemfdaadoor", sum := "8ccf5ad9f538710cc9b0182d94e2554f2cff957f15f0fd47b73505669bd7d646", func := "timesync/timesynclaw47.GuardWaits", spec := "guardWaits", unfollowed := true, recurses := true, named := ["timesync/prng.rounds"], apart := false, laid := [("timesync/prng.rounds", laid_timesync_prng_rounds)] }
def GuardWaitsSaid : Prop := guardWaitsRow.holds Tryd.pinned (OpenSpec.ofChange guardWaitsSpec)

/-- ITS FALSE NEIGHBOUR: 'it returns false'. Refute it at one input. -/
def guardWaitsWrong : ChangeSpec := { name := "guardWaits", fn := fun _ => fun
  | [d1, d2, d3, d4] => { results := [.lit (.bool false)], args := [d1, d2, d3, d4] }
  | _ => none }
def GuardWaitsWrongFalsely : Prop := guardWaitsRow.holds Tryd.pinned (OpenSpec.ofChange guardWaitsWrong)

/-- 'timesynclaw47.GuardNobody': WHATEVER THE INPUT: true; the input reads as it did. -/
def guardNobodySpec : ChangeSpec := { name := "guardNobody", fn := fun _ => fun
  | [d1, d2, d3, d4] => { results := [.lit (.bool true)], args := [d1, d2, d3, d4] }
  | _ => none }
def guardNobodyRow : OpenClaim := { program := "ytachhbbofemfdaadoor", sum := "8ccf5ad9f538710cc9b0182d94e2554f2cff957f15f0fd47b73505669bd7d646", func := "timesync/timesynclaw47.GuardNobody", spec := "guardNobody", unfollowed := true, recurses := true, named := ["timesync/prng.rounds"], apart := false, laid := [("timesync/prng.rounds", laid_timesync_prng_rounds)] }
def GuardNobodySaid : Prop := guardNobodyRow.holds Tryd.pinned (OpenSpec.ofChange guardNobodySpec)

/-- ITS FALSE NEIGHBOUR: 'it returns false'. Refute it at one input. -/
def guardNobodyWrong : ChangeSpec := { name := "guardNobody", fn := fun _ => fun
  | [d1, d2, d3, d4] => { results := [.lit (.bool false)], args := [d1, d2, d3, d4] }
  | _ => none }
def GuardNobodyWrongFalsely : Prop := guardNobodyRow.holds Tryd.pinned (OpenSpec.ofChange guardNobodyWrong)

/-- 'timesynclaw47.GuardChanged': WHATEVER THE INPUT: true; the input reads as it did. -/
def guardChangedSpec : ChangeSpec := { name := "guardChanged", fn := fun _ => fun
  | [d1, d2, d3, d4, d5] => { results := [.lit (.bool true)], args := [d1, d2, d3, d4, d5] }
  | _ => none }
def guardChangedRow : OpenClaim := { program := "ytachhbbofemfdaadoor", sum := "8ccf5ad9f538710cc9b0182d94e2554f2cff957f15f0fd47b73505669bd7d646", func := "timesync/timesynclaw47.GuardChanged", spec := "guardChanged", unfollowed := true, recurses := true, named := ["timesync/prng.rounds"], apart := false, laid := [("timesync/prng.rounds", laid_timesync_prng_rounds)] }
def GuardChangedSaid : Prop := guardChangedRow.holds Tryd.pinned (OpenSpec.ofChange guardChangedSpec)

/-- ITS FALSE NEIGHBOUR: 'it returns false'. Refute it at one input. -/
def guardChangedWrong : ChangeSpec := { name := "guardChanged", fn := fun _ => fun
  | [d1, d2, d3, d4, d5] => { results := [.lit (.bool false)], args := [d1, d2, d3, d4, d5] }
  | _ => none }
def GuardChangedWrongFalsely : Prop := guardChangedRow.holds Tryd.pinned (OpenSpec.ofChange guardChangedWrong)

/-- 'timesynclaw47.GuardRuns': WHATEVER THE INPUT: true; the input reads as it did. -/
def guardRunsSpec : ChangeSpec := { name := "guardRuns", fn := fun _ => fun
  | [d1, d2, d3, d4, d5] => { results := [.lit (.bool true)], args := [d1, d2, d3, d4, d5] }
  | _ => none }
def guardRunsRow : OpenClaim := { program := "ytachhbbofemfdaadoor", sum := "8ccf5ad9f538710cc9b0182d94e2554f2cff957f15f0fd47b73505669bd7d646", func := "timesync/timesynclaw47.GuardRuns", spec := "guardRuns", unfollowed := true, recurses := true, named := ["timesync/prng.rounds"], apart := false, laid := [("timesync/prng.rounds", laid_timesync_prng_rounds)] }
def GuardRunsSaid : Prop := guardRunsRow.holds Tryd.pinned (OpenSpec.ofChange guardRunsSpec)

/-- ITS FALSE NEIGHBOUR: 'it returns false'. Refute it at one input. -/
def guardRunsWrong : ChangeSpec := { name := "guardRuns", fn := fun _ => fun
  | [d1, d2, d3, d4, d5] => { results := [.lit (.bool false)], args := [d1, d2, d3, d4, d5] }
  | _ => none }
def GuardRunsWrongFalsely : Prop := guardRunsRow.holds Tryd.pinned (OpenSpec.ofChange guardRunsWrong)

/- THE SECOND FORM. 'bulk': how many values and letters a reading holds, each counted each time it is reached (what is shared counts as often as it is met; a slice's spare places count too). A statement '..UptoSaid' is the law's where the arguments, and the package variables that the reading takes, are together of bulk at most 1048576: NARROWER than '..Said'. Prove '..Said' where nothing that the law and all that it calls make is longer than what came in: it says more and counts as full. Else prove '..UptoSaid'. A law counts once. -/
mutual
def uptoBulk {H : Type} : DataW H → Nat
  | .lit (.string bytes) => bytes.length + 1
  | .lit _ => 1
  | .nil => 1
  | .ptr d => uptoBulk d + 1
  | .slice elems spare => uptoBulkAll elems + uptoBulkAll spare + 1
  | .agg parts => uptoBulkAll parts + 1
  | .iface _ d => uptoBulk d + 1
  | .map entries => uptoBulkEntries entries + 1
  | .held _ => 1
def uptoBulkAll {H : Type} : List (DataW H) → Nat
  | [] => 0
  | d :: r => uptoBulk d + uptoBulkAll r
def uptoBulkEntries {H : Type} : List (Lit × DataW H) → Nat
  | [] => 0
  | x :: r => uptoBulkEntry x + uptoBulkEntries r
def uptoBulkEntry {H : Type} : Lit × DataW H → Nat
  | (.string bytes, d) => bytes.length + uptoBulk d + 1
  | (_, d) => uptoBulk d + 1
 end
def uptoSmall : (H : Type) → List (DataW H) → Bool := fun _ ds => decide (uptoBulkAll ds ≤ 1048576)
def OpenSpec.upto (s : _root_.Go.ChangeSpec) : _root_.Go.OpenSpec := { _root_.Go.OpenSpec.ofChange s with cond := some uptoSmall }

/-- 'timesynclaw47.GuardOpens', WHERE WHAT IT READS IS OF BULK AT MOST 1048576: true; the input reads as it did. -/
def guardOpensUptoRow : OpenClaim := { program := "ytachhbbofemfdaadoor", sum := "8ccf5ad9f538710cc9b0182d94e2554f2cff957f15f0fd47b73505669bd7d646", func := "timesync/timesynclaw47.GuardOpens", spec := "guardOpens", unfollowed := true, recurses := true, named := ["timesync/prng.rounds"], apart := false, laid := [("timesync/prng.rounds", laid_timesync_prng_rounds)], narrowed := true }
def GuardOpensUptoSaid : Prop := guardOpensUptoRow.holds Tryd.pinned (OpenSpec.upto guardOpensSpec)

/-- 'timesynclaw47.GuardReplies', WHERE WHAT IT READS IS OF BULK AT MOST 1048576: true; the input reads as it did. -/
def guardRepliesUptoRow : OpenClaim := { program := "ytachhbbofemfdaadoor", sum := "8ccf5ad9f538710cc9b0182d94e2554f2cff957f15f0fd47b73505669bd7d646", func := "timesync/timesynclaw47.GuardReplies", spec := "guardReplies", unfollowed := true, recurses := true, named := ["timesync/prng.rounds"], apart := false, laid := [("timesync/prng.rounds", laid_timesync_prng_rounds)], narrowed := true }
def GuardRepliesUptoSaid : Prop := guardRepliesUptoRow.holds Tryd.pinned (OpenSpec.upto guardRepliesSpec)

/-- 'timesynclaw47.GuardTrips', WHERE WHAT IT READS IS OF BULK AT MOST 1048576: true; the input reads as it did. -/
def guardTripsUptoRow : OpenClaim := { program := "ytachhbbofemfdaadoor", sum := "8ccf5ad9f538710cc9b0182d94e2554f2cff957f15f0fd47b73505669bd7d646", func := "timesync/timesynclaw47.GuardTrips", spec := "guardTrips", unfollowed := true, recurses := true, named := ["timesync/prng.rounds"], apart := false, laid := [("timesync/prng.rounds", laid_timesync_prng_rounds)], narrowed := true }
def GuardTripsUptoSaid : Prop := guardTripsUptoRow.holds Tryd.pinned (OpenSpec.upto guardTripsSpec)

/-- 'timesynclaw47.GuardWaits', WHERE WHAT IT READS IS OF BULK AT MOST 1048576: true; the input reads as it did. -/
def guardWaitsUptoRow : OpenClaim := { program := "ytachhbbofemfdaadoor", sum := "8ccf5ad9f538710cc9b0182d94e2554f2cff957f15f0fd47b73505669bd7d646", func := "timesync/timesynclaw47.GuardWaits", spec := "guardWaits", unfollowed := true, recurses := true, named := ["timesync/prng.rounds"], apart := false, laid := [("timesync/prng.rounds", laid_timesync_prng_rounds)], narrowed := true }
def GuardWaitsUptoSaid : Prop := guardWaitsUptoRow.holds Tryd.pinned (OpenSpec.upto guardWaitsSpec)

/-- 'timesynclaw47.GuardNobody', WHERE WHAT IT READS IS OF BULK AT MOST 1048576: true; the input reads as it did. -/
def guardNobodyUptoRow : OpenClaim := { program := "ytachhbbofemfdaadoor", sum := "8ccf5ad9f538710cc9b0182d94e2554f2cff957f15f0fd47b73505669bd7d646", func := "timesync/timesynclaw47.GuardNobody", spec := "guardNobody", unfollowed := true, recurses := true, named := ["timesync/prng.rounds"], apart := false, laid := [("timesync/prng.rounds", laid_timesync_prng_rounds)], narrowed := true }
def GuardNobodyUptoSaid : Prop := guardNobodyUptoRow.holds Tryd.pinned (OpenSpec.upto guardNobodySpec)

/-- 'timesynclaw47.GuardChanged', WHERE WHAT IT READS IS OF BULK AT MOST 1048576: true; the input reads as it did. -/
def guardChangedUptoRow : OpenClaim := { program := "ytachhbbofemfdaadoor", sum := "8ccf5ad9f538710cc9b0182d94e2554f2cff957f15f0fd47b73505669bd7d646", func := "timesync/timesynclaw47.GuardChanged", spec := "guardChanged", unfollowed := true, recurses := true, named := ["timesync/prng.rounds"], apart := false, laid := [("timesync/prng.rounds", laid_timesync_prng_rounds)], narrowed := true }
def GuardChangedUptoSaid : Prop := guardChangedUptoRow.holds Tryd.pinned (OpenSpec.upto guardChangedSpec)

/-- 'timesynclaw47.GuardRuns', WHERE WHAT IT READS IS OF BULK AT MOST 1048576: true; the input reads as it did. -/
def guardRunsUptoRow : OpenClaim := { program := "ytachhbbofemfdaadoor", sum := "8ccf5ad9f538710cc9b0182d94e2554f2cff957f15f0fd47b73505669bd7d646", func := "timesync/timesynclaw47.GuardRuns", spec := "guardRuns", unfollowed := true, recurses := true, named := ["timesync/prng.rounds"], apart := false, laid := [("timesync/prng.rounds", laid_timesync_prng_rounds)], narrowed := true }
def GuardRunsUptoSaid : Prop := guardRunsUptoRow.holds Tryd.pinned (OpenSpec.upto guardRunsSpec)

end Rows
end Go.Proofs.YtachhbbofemfdaaDoor
