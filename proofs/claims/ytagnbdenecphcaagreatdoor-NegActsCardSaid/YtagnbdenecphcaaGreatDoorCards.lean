/-
  DERIVED. GIVEN WITH THE SEED: THE CARDS: each row of YtagnbdenecphcaaGreatDoorRows.lean that lists a variable, with what it lists TIED to the program's text (the seventh form; the later family's looks); each row that meets fmt, with fmt's text TOLD by the authors' own Lean function (tested against real Go, not proved from fmt's source: count such statements apart). THE CARD IS WHAT COUNTS. Prove the row's statement (the work); the ties are given (YtagnbdenecphcaaGreatDoorTie.lean); close each card by the builder's one call (the guide's Derived/Test/ToyasCard.lean, 'card_holds'). Laid BY PROGRAM, IN A SANDBOX (cutbox-door.mjs). By AI agents, Wed Nov 11 2026. No macro, syntax, notation, axiom, sorry.
-/
import Derived.Test.YtagnbdenecphcaaGreatDoorRows
import GoSem.ClaimSeven
namespace Go.Proofs.YtagnbdenecphcaaGreatDoor
namespace Rows

/-- THE TIED CARD OF 'withylaw15.NegActs'. -/
def negActsCard : Claim7 := { stood := { row := negActsRow, standIns := [], harness := (true, "9a3209a78fec472f40bf4810fda5e502c5e1ccdfa3a3efda1c7196bd247d7229"), looks := false }, kinds := [], alts := [], laidByText := true, laidKinds := [.data, .pinned], laidTests := true, laidLooks := .later }
def NegActsCardSaid : Prop := Claim7.holds Tryz.pinned (.plain (OpenSpec.ofChange negActsSpec)) negActsCard

/-- THE SECOND FORM's CARD OF 'withylaw15.NegActs'. -/
def negActsUptoCard : Claim7 := { stood := { row := negActsUptoRow, standIns := [], harness := (true, "9a3209a78fec472f40bf4810fda5e502c5e1ccdfa3a3efda1c7196bd247d7229"), looks := false }, kinds := [], alts := [], laidByText := true, laidKinds := [.data, .pinned], laidTests := true, laidLooks := .later }
def NegActsUptoCardSaid : Prop := Claim7.holds Tryz.pinned (.plain (OpenSpec.upto negActsSpec)) negActsUptoCard
end Rows
end Go.Proofs.YtagnbdenecphcaaGreatDoor
