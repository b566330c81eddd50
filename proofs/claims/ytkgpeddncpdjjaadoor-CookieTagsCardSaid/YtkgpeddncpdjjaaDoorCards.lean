/-
  DERIVED. GIVEN WITH THE SEED: THE CARDS: each row of YtkgpeddncpdjjaaDoorRows.lean that lists a variable, with what it lists TIED to the program's text (the seventh form; the later family's looks); each row that meets fmt, with fmt's text TOLD by the authors' own Lean function (tested against real Go, not proved from fmt's source: count such statements apart). THE CARD IS WHAT COUNTS. Prove the row's statement (the work); the ties are given (YtkgpeddncpdjjaaDoorTie.lean); close each card by the builder's one call (the guide's Derived/Test/ToyasCard.lean, 'card_holds'). Laid BY PROGRAM, IN A SANDBOX (cutbox-door.mjs). By AI agents, Wed Nov 11 2026. No macro, syntax, notation, axiom, sorry.
-/
import Derived.Test.YtkgpeddncpdjjaaDoorRows
import GoSem.ClaimSeven
namespace Go.Proofs.YtkgpeddncpdjjaaDoor
namespace Rows

/-- THE TIED CARD OF 'timesynclaw44.CookieSeals'. -/
def cookieSealsCard : Claim7 := { stood := { row := cookieSealsRow, standIns := [], harness := (true, "8394655348fc4a58aeacaa1b7015a8fb47e341e3259c7b34a86bbed475ad8c6e"), looks := false }, kinds := [], alts := [], laidByText := true, laidKinds := [.data], laidTests := true, laidLooks := .later }
def CookieSealsCardSaid : Prop := Claim7.holds Tryd.pinned (.plain (OpenSpec.ofChange cookieSealsSpec)) cookieSealsCard

/-- THE TIED CARD OF 'timesynclaw44.CookieOpens'. -/
def cookieOpensCard : Claim7 := { stood := { row := cookieOpensRow, standIns := [], harness := (true, "8394655348fc4a58aeacaa1b7015a8fb47e341e3259c7b34a86bbed475ad8c6e"), looks := false }, kinds := [], alts := [], laidByText := true, laidKinds := [.data], laidTests := true, laidLooks := .later }
def CookieOpensCardSaid : Prop := Claim7.holds Tryd.pinned (.plain (OpenSpec.ofChange cookieOpensSpec)) cookieOpensCard

/-- THE TIED CARD OF 'timesynclaw44.CookieBack'. -/
def cookieBackCard : Claim7 := { stood := { row := cookieBackRow, standIns := [], harness := (true, "8394655348fc4a58aeacaa1b7015a8fb47e341e3259c7b34a86bbed475ad8c6e"), looks := false }, kinds := [], alts := [], laidByText := true, laidKinds := [.data], laidTests := true, laidLooks := .later }
def CookieBackCardSaid : Prop := Claim7.holds Tryd.pinned (.plain (OpenSpec.ofChange cookieBackSpec)) cookieBackCard

/-- THE TIED CARD OF 'timesynclaw44.CookieLengths'. -/
def cookieLengthsCard : Claim7 := { stood := { row := cookieLengthsRow, standIns := [], harness := (true, "8394655348fc4a58aeacaa1b7015a8fb47e341e3259c7b34a86bbed475ad8c6e"), looks := false }, kinds := [], alts := [], laidByText := true, laidKinds := [.data], laidTests := true, laidLooks := .later }
def CookieLengthsCardSaid : Prop := Claim7.holds Tryd.pinned (.plain (OpenSpec.ofChange cookieLengthsSpec)) cookieLengthsCard

/-- THE TIED CARD OF 'timesynclaw44.CookieNobody'. -/
def cookieNobodyCard : Claim7 := { stood := { row := cookieNobodyRow, standIns := [], harness := (true, "8394655348fc4a58aeacaa1b7015a8fb47e341e3259c7b34a86bbed475ad8c6e"), looks := false }, kinds := [], alts := [], laidByText := true, laidKinds := [.data], laidTests := true, laidLooks := .later }
def CookieNobodyCardSaid : Prop := Claim7.holds Tryd.pinned (.plain (OpenSpec.ofChange cookieNobodySpec)) cookieNobodyCard

/-- THE TIED CARD OF 'timesynclaw44.CookieTags'. -/
def cookieTagsCard : Claim7 := { stood := { row := cookieTagsRow, standIns := [], harness := (true, "8394655348fc4a58aeacaa1b7015a8fb47e341e3259c7b34a86bbed475ad8c6e"), looks := false }, kinds := [], alts := [], laidByText := true, laidKinds := [.data], laidTests := true, laidLooks := .later }
def CookieTagsCardSaid : Prop := Claim7.holds Tryd.pinned (.plain (OpenSpec.ofChange cookieTagsSpec)) cookieTagsCard

/-- THE SECOND FORM's CARD OF 'timesynclaw44.CookieSeals'. -/
def cookieSealsUptoCard : Claim7 := { stood := { row := cookieSealsUptoRow, standIns := [], harness := (true, "8394655348fc4a58aeacaa1b7015a8fb47e341e3259c7b34a86bbed475ad8c6e"), looks := false }, kinds := [], alts := [], laidByText := true, laidKinds := [.data], laidTests := true, laidLooks := .later }
def CookieSealsUptoCardSaid : Prop := Claim7.holds Tryd.pinned (.plain (OpenSpec.upto cookieSealsSpec)) cookieSealsUptoCard

/-- THE SECOND FORM's CARD OF 'timesynclaw44.CookieOpens'. -/
def cookieOpensUptoCard : Claim7 := { stood := { row := cookieOpensUptoRow, standIns := [], harness := (true, "8394655348fc4a58aeacaa1b7015a8fb47e341e3259c7b34a86bbed475ad8c6e"), looks := false }, kinds := [], alts := [], laidByText := true, laidKinds := [.data], laidTests := true, laidLooks := .later }
def CookieOpensUptoCardSaid : Prop := Claim7.holds Tryd.pinned (.plain (OpenSpec.upto cookieOpensSpec)) cookieOpensUptoCard

/-- THE SECOND FORM's CARD OF 'timesynclaw44.CookieBack'. -/
def cookieBackUptoCard : Claim7 := { stood := { row := cookieBackUptoRow, standIns := [], harness := (true, "8394655348fc4a58aeacaa1b7015a8fb47e341e3259c7b34a86bbed475ad8c6e"), looks := false }, kinds := [], alts := [], laidByText := true, laidKinds := [.data], laidTests := true, laidLooks := .later }
def CookieBackUptoCardSaid : Prop := Claim7.holds Tryd.pinned (.plain (OpenSpec.upto cookieBackSpec)) cookieBackUptoCard

/-- THE SECOND FORM's CARD OF 'timesynclaw44.CookieLengths'. -/
def cookieLengthsUptoCard : Claim7 := { stood := { row := cookieLengthsUptoRow, standIns := [], harness := (true, "8394655348fc4a58aeacaa1b7015a8fb47e341e3259c7b34a86bbed475ad8c6e"), looks := false }, kinds := [], alts := [], laidByText := true, laidKinds := [.data], laidTests := true, laidLooks := .later }
def CookieLengthsUptoCardSaid : Prop := Claim7.holds Tryd.pinned (.plain (OpenSpec.upto cookieLengthsSpec)) cookieLengthsUptoCard

/-- THE SECOND FORM's CARD OF 'timesynclaw44.CookieNobody'. -/
def cookieNobodyUptoCard : Claim7 := { stood := { row := cookieNobodyUptoRow, standIns := [], harness := (true, "8394655348fc4a58aeacaa1b7015a8fb47e341e3259c7b34a86bbed475ad8c6e"), looks := false }, kinds := [], alts := [], laidByText := true, laidKinds := [.data], laidTests := true, laidLooks := .later }
def CookieNobodyUptoCardSaid : Prop := Claim7.holds Tryd.pinned (.plain (OpenSpec.upto cookieNobodySpec)) cookieNobodyUptoCard

/-- THE SECOND FORM's CARD OF 'timesynclaw44.CookieTags'. -/
def cookieTagsUptoCard : Claim7 := { stood := { row := cookieTagsUptoRow, standIns := [], harness := (true, "8394655348fc4a58aeacaa1b7015a8fb47e341e3259c7b34a86bbed475ad8c6e"), looks := false }, kinds := [], alts := [], laidByText := true, laidKinds := [.data], laidTests := true, laidLooks := .later }
def CookieTagsUptoCardSaid : Prop := Claim7.holds Tryd.pinned (.plain (OpenSpec.upto cookieTagsSpec)) cookieTagsUptoCard
end Rows
end Go.Proofs.YtkgpeddncpdjjaaDoor
