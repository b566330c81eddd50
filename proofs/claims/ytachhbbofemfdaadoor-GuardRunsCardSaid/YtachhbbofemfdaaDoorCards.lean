/-
  DERIVED. GIVEN WITH THE SEED: THE CARDS: each row of YtachhbbofemfdaaDoorRows.lean that lists a variable, with what it lists TIED to the program's text (the seventh form; the later family's looks); each row that meets fmt, with fmt's text TOLD by the authors' own Lean function (tested against real Go, not proved from fmt's source: count such statements apart). THE CARD IS WHAT COUNTS. Prove the row's statement (the work); the ties are given (YtachhbbofemfdaaDoorTie.lean); close each card by the builder's one call (the guide's Derived/Test/ToyasCard.lean, 'card_holds'). Laid BY PROGRAM, IN A SANDBOX (cutbox-door.mjs). By AI agents, Wed Nov 11 2026. No macro, syntax, notation, axiom, sorry.
-/
import Derived.Test.YtachhbbofemfdaaDoorRows
import GoSem.ClaimSeven
namespace Go.Proofs.YtachhbbofemfdaaDoor
namespace Rows

/-- THE TIED CARD OF 'timesynclaw47.GuardOpens'. -/
def guardOpensCard : Claim7 := { stood := { row := guardOpensRow, standIns := [], harness := (true, "c4b1b2d4f74ec7734596bc71e9d6ff8abdbb62baa7ce3b2ed752ec86e11bac2c"), looks := false }, kinds := [], alts := [], laidByText := true, laidKinds := [.data], laidTests := true, laidLooks := .later }
def GuardOpensCardSaid : Prop := Claim7.holds Tryd.pinned (.plain (OpenSpec.ofChange guardOpensSpec)) guardOpensCard

/-- THE TIED CARD OF 'timesynclaw47.GuardReplies'. -/
def guardRepliesCard : Claim7 := { stood := { row := guardRepliesRow, standIns := [], harness := (true, "c4b1b2d4f74ec7734596bc71e9d6ff8abdbb62baa7ce3b2ed752ec86e11bac2c"), looks := false }, kinds := [], alts := [], laidByText := true, laidKinds := [.data], laidTests := true, laidLooks := .later }
def GuardRepliesCardSaid : Prop := Claim7.holds Tryd.pinned (.plain (OpenSpec.ofChange guardRepliesSpec)) guardRepliesCard

/-- THE TIED CARD OF 'timesynclaw47.GuardTrips'. -/
def guardTripsCard : Claim7 := { stood := { row := guardTripsRow, standIns := [], harness := (true, "c4b1b2d4f74ec7734596bc71e9d6ff8abdbb62baa7ce3b2ed752ec86e11bac2c"), looks := false }, kinds := [], alts := [], laidByText := true, laidKinds := [.data], laidTests := true, laidLooks := .later }
def GuardTripsCardSaid : Prop := Claim7.holds Tryd.pinned (.plain (OpenSpec.ofChange guardTripsSpec)) guardTripsCard

/-- THE TIED CARD OF 'timesynclaw47.GuardWaits'. -/
def guardWaitsCard : Claim7 := { stood := { row := guardWaitsRow, standIns := [], harness := (true, "c4b1b2d4f74ec7734596bc71e9d6ff8abdbb62baa7ce3b2ed752ec86e11bac2c"), looks := false }, kinds := [], alts := [], laidByText := true, laidKinds := [.data], laidTests := true, laidLooks := .later }
def GuardWaitsCardSaid : Prop := Claim7.holds Tryd.pinned (.plain (OpenSpec.ofChange guardWaitsSpec)) guardWaitsCard

/-- THE TIED CARD OF 'timesynclaw47.GuardNobody'. -/
def guardNobodyCard : Claim7 := { stood := { row := guardNobodyRow, standIns := [], harness := (true, "c4b1b2d4f74ec7734596bc71e9d6ff8abdbb62baa7ce3b2ed752ec86e11bac2c"), looks := false }, kinds := [], alts := [], laidByText := true, laidKinds := [.data], laidTests := true, laidLooks := .later }
def GuardNobodyCardSaid : Prop := Claim7.holds Tryd.pinned (.plain (OpenSpec.ofChange guardNobodySpec)) guardNobodyCard

/-- THE TIED CARD OF 'timesynclaw47.GuardChanged'. -/
def guardChangedCard : Claim7 := { stood := { row := guardChangedRow, standIns := [], harness := (true, "c4b1b2d4f74ec7734596bc71e9d6ff8abdbb62baa7ce3b2ed752ec86e11bac2c"), looks := false }, kinds := [], alts := [], laidByText := true, laidKinds := [.data], laidTests := true, laidLooks := .later }
def GuardChangedCardSaid : Prop := Claim7.holds Tryd.pinned (.plain (OpenSpec.ofChange guardChangedSpec)) guardChangedCard

/-- THE TIED CARD OF 'timesynclaw47.GuardRuns'. -/
def guardRunsCard : Claim7 := { stood := { row := guardRunsRow, standIns := [], harness := (true, "c4b1b2d4f74ec7734596bc71e9d6ff8abdbb62baa7ce3b2ed752ec86e11bac2c"), looks := false }, kinds := [], alts := [], laidByText := true, laidKinds := [.data], laidTests := true, laidLooks := .later }
def GuardRunsCardSaid : Prop := Claim7.holds Tryd.pinned (.plain (OpenSpec.ofChange guardRunsSpec)) guardRunsCard

/-- THE SECOND FORM's CARD OF 'timesynclaw47.GuardOpens'. -/
def guardOpensUptoCard : Claim7 := { stood := { row := guardOpensUptoRow, standIns := [], harness := (true, "c4b1b2d4f74ec7734596bc71e9d6ff8abdbb62baa7ce3b2ed752ec86e11bac2c"), looks := false }, kinds := [], alts := [], laidByText := true, laidKinds := [.data], laidTests := true, laidLooks := .later }
def GuardOpensUptoCardSaid : Prop := Claim7.holds Tryd.pinned (.plain (OpenSpec.upto guardOpensSpec)) guardOpensUptoCard

/-- THE SECOND FORM's CARD OF 'timesynclaw47.GuardReplies'. -/
def guardRepliesUptoCard : Claim7 := { stood := { row := guardRepliesUptoRow, standIns := [], harness := (true, "c4b1b2d4f74ec7734596bc71e9d6ff8abdbb62baa7ce3b2ed752ec86e11bac2c"), looks := false }, kinds := [], alts := [], laidByText := true, laidKinds := [.data], laidTests := true, laidLooks := .later }
def GuardRepliesUptoCardSaid : Prop := Claim7.holds Tryd.pinned (.plain (OpenSpec.upto guardRepliesSpec)) guardRepliesUptoCard

/-- THE SECOND FORM's CARD OF 'timesynclaw47.GuardTrips'. -/
def guardTripsUptoCard : Claim7 := { stood := { row := guardTripsUptoRow, standIns := [], harness := (true, "c4b1b2d4f74ec7734596bc71e9d6ff8abdbb62baa7ce3b2ed752ec86e11bac2c"), looks := false }, kinds := [], alts := [], laidByText := true, laidKinds := [.data], laidTests := true, laidLooks := .later }
def GuardTripsUptoCardSaid : Prop := Claim7.holds Tryd.pinned (.plain (OpenSpec.upto guardTripsSpec)) guardTripsUptoCard

/-- THE SECOND FORM's CARD OF 'timesynclaw47.GuardWaits'. -/
def guardWaitsUptoCard : Claim7 := { stood := { row := guardWaitsUptoRow, standIns := [], harness := (true, "c4b1b2d4f74ec7734596bc71e9d6ff8abdbb62baa7ce3b2ed752ec86e11bac2c"), looks := false }, kinds := [], alts := [], laidByText := true, laidKinds := [.data], laidTests := true, laidLooks := .later }
def GuardWaitsUptoCardSaid : Prop := Claim7.holds Tryd.pinned (.plain (OpenSpec.upto guardWaitsSpec)) guardWaitsUptoCard

/-- THE SECOND FORM's CARD OF 'timesynclaw47.GuardNobody'. -/
def guardNobodyUptoCard : Claim7 := { stood := { row := guardNobodyUptoRow, standIns := [], harness := (true, "c4b1b2d4f74ec7734596bc71e9d6ff8abdbb62baa7ce3b2ed752ec86e11bac2c"), looks := false }, kinds := [], alts := [], laidByText := true, laidKinds := [.data], laidTests := true, laidLooks := .later }
def GuardNobodyUptoCardSaid : Prop := Claim7.holds Tryd.pinned (.plain (OpenSpec.upto guardNobodySpec)) guardNobodyUptoCard

/-- THE SECOND FORM's CARD OF 'timesynclaw47.GuardChanged'. -/
def guardChangedUptoCard : Claim7 := { stood := { row := guardChangedUptoRow, standIns := [], harness := (true, "c4b1b2d4f74ec7734596bc71e9d6ff8abdbb62baa7ce3b2ed752ec86e11bac2c"), looks := false }, kinds := [], alts := [], laidByText := true, laidKinds := [.data], laidTests := true, laidLooks := .later }
def GuardChangedUptoCardSaid : Prop := Claim7.holds Tryd.pinned (.plain (OpenSpec.upto guardChangedSpec)) guardChangedUptoCard

/-- THE SECOND FORM's CARD OF 'timesynclaw47.GuardRuns'. -/
def guardRunsUptoCard : Claim7 := { stood := { row := guardRunsUptoRow, standIns := [], harness := (true, "c4b1b2d4f74ec7734596bc71e9d6ff8abdbb62baa7ce3b2ed752ec86e11bac2c"), looks := false }, kinds := [], alts := [], laidByText := true, laidKinds := [.data], laidTests := true, laidLooks := .later }
def GuardRunsUptoCardSaid : Prop := Claim7.holds Tryd.pinned (.plain (OpenSpec.upto guardRunsSpec)) guardRunsUptoCard
end Rows
end Go.Proofs.YtachhbbofemfdaaDoor
