/-
  DERIVED. GIVEN WITH THE SEED: THE CARDS: each row of YtkccmmhofhaccaaDoorRows.lean that lists a variable, with what it lists TIED to the program's text (the seventh form; the later family's looks); each row that meets fmt, with fmt's text TOLD by the authors' own Lean function (tested against real Go, not proved from fmt's source: count such statements apart). THE CARD IS WHAT COUNTS. Prove the row's statement (the work); the ties are given (YtkccmmhofhaccaaDoorTie.lean); close each card by the builder's one call (the guide's Derived/Test/ToyasCard.lean, 'card_holds'). Laid BY PROGRAM, IN A SANDBOX (cutbox-door.mjs). By AI agents, Wed Nov 11 2026. No macro, syntax, notation, axiom, sorry.
-/
import Derived.Test.YtkccmmhofhaccaaDoorRows
import GoSem.ClaimSeven
namespace Go.Proofs.YtkccmmhofhaccaaDoor
namespace Rows

/-- THE TIED CARD OF 'timesynctop.TopGuarded'. -/
def topGuardedCard : Claim7 := { stood := { row := topGuardedRow, standIns := [], harness := (true, "ed3c6bc3cd28a75e3fea77b5f7adcf9ac28bc1fe55d54875971f010848afcba1"), looks := false }, kinds := [], alts := [], laidByText := true, laidKinds := [.data], laidTests := true, laidLooks := .later }
def TopGuardedCardSaid : Prop := Claim7.holds Tryd.pinned (.plain (OpenSpec.ofChange topGuardedSpec)) topGuardedCard

/-- THE SECOND FORM's CARD OF 'timesynctop.TopGuarded'. -/
def topGuardedUptoCard : Claim7 := { stood := { row := topGuardedUptoRow, standIns := [], harness := (true, "ed3c6bc3cd28a75e3fea77b5f7adcf9ac28bc1fe55d54875971f010848afcba1"), looks := false }, kinds := [], alts := [], laidByText := true, laidKinds := [.data], laidTests := true, laidLooks := .later }
def TopGuardedUptoCardSaid : Prop := Claim7.holds Tryd.pinned (.plain (OpenSpec.upto topGuardedSpec)) topGuardedUptoCard
end Rows
end Go.Proofs.YtkccmmhofhaccaaDoor
