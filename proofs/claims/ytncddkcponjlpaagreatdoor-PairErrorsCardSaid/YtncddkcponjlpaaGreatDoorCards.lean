/-
  DERIVED. GIVEN WITH THE SEED: THE CARDS: each row of YtncddkcponjlpaaGreatDoorRows.lean that lists a variable, with what it lists TIED to the program's text (the seventh form; the later family's looks); each row that meets fmt, with fmt's text TOLD by the authors' own Lean function (tested against real Go, not proved from fmt's source: count such statements apart). THE CARD IS WHAT COUNTS. Prove the row's statement (the work); the ties are given (YtncddkcponjlpaaGreatDoorTie.lean); close each card by the builder's one call (the guide's Derived/Test/ToyasCard.lean, 'card_holds'). Laid BY PROGRAM, IN A SANDBOX (cutbox-door.mjs). By AI agents, Wed Nov 11 2026. No macro, syntax, notation, axiom, sorry.
-/
import Derived.Test.YtncddkcponjlpaaGreatDoorRows
import GoSem.ClaimSeven
namespace Go.Proofs.YtncddkcponjlpaaGreatDoor
namespace Rows

/-- THE TIED CARD OF 'withylaw27.PairHolds'. -/
def pairHoldsCard : Claim7 := { stood := { row := pairHoldsRow, standIns := [], harness := (true, "8c7cde5d1b82b51f75363f6c4450784f0ca13e06bd497ad352e72c2dde9a6bbf"), looks := false }, kinds := [], alts := [], laidByText := true, laidKinds := [.data, .pinned], laidTests := true, laidLooks := .later }
def PairHoldsCardSaid : Prop := Claim7.holds Tryz.pinned (.plain (OpenSpec.ofChange pairHoldsSpec)) pairHoldsCard

/-- THE TIED CARD OF 'withylaw27.PairTimes'. -/
def pairTimesCard : Claim7 := { stood := { row := pairTimesRow, standIns := [], harness := (true, "8c7cde5d1b82b51f75363f6c4450784f0ca13e06bd497ad352e72c2dde9a6bbf"), looks := false }, kinds := [], alts := [], laidByText := true, laidKinds := [.data, .pinned], laidTests := true, laidLooks := .later }
def PairTimesCardSaid : Prop := Claim7.holds Tryz.pinned (.plain (OpenSpec.ofChange pairTimesSpec)) pairTimesCard

/-- THE TIED CARD OF 'withylaw27.PairOnce'. -/
def pairOnceCard : Claim7 := { stood := { row := pairOnceRow, standIns := [], harness := (true, "8c7cde5d1b82b51f75363f6c4450784f0ca13e06bd497ad352e72c2dde9a6bbf"), looks := false }, kinds := [], alts := [], laidByText := true, laidKinds := [.data, .pinned], laidTests := true, laidLooks := .later }
def PairOnceCardSaid : Prop := Claim7.holds Tryz.pinned (.plain (OpenSpec.ofChange pairOnceSpec)) pairOnceCard

/-- THE TIED CARD OF 'withylaw27.PairForms'. -/
def pairFormsCard : Claim7 := { stood := { row := pairFormsRow, standIns := [], harness := (true, "8c7cde5d1b82b51f75363f6c4450784f0ca13e06bd497ad352e72c2dde9a6bbf"), looks := false }, kinds := [], alts := [], laidByText := true, laidKinds := [.data, .pinned], laidTests := true, laidLooks := .later }
def PairFormsCardSaid : Prop := Claim7.holds Tryz.pinned (.plain (OpenSpec.ofChange pairFormsSpec)) pairFormsCard

/-- THE TIED CARD OF 'withylaw27.PairGrows'. -/
def pairGrowsCard : Claim7 := { stood := { row := pairGrowsRow, standIns := [], harness := (true, "8c7cde5d1b82b51f75363f6c4450784f0ca13e06bd497ad352e72c2dde9a6bbf"), looks := false }, kinds := [], alts := [], laidByText := true, laidKinds := [.data, .pinned], laidTests := true, laidLooks := .later }
def PairGrowsCardSaid : Prop := Claim7.holds Tryz.pinned (.plain (OpenSpec.ofChange pairGrowsSpec)) pairGrowsCard

/-- THE TIED CARD OF 'withylaw27.PairSteps'. -/
def pairStepsCard : Claim7 := { stood := { row := pairStepsRow, standIns := [], harness := (true, "8c7cde5d1b82b51f75363f6c4450784f0ca13e06bd497ad352e72c2dde9a6bbf"), looks := false }, kinds := [], alts := [], laidByText := true, laidKinds := [.data, .pinned], laidTests := true, laidLooks := .later }
def PairStepsCardSaid : Prop := Claim7.holds Tryz.pinned (.plain (OpenSpec.ofChange pairStepsSpec)) pairStepsCard

/-- THE TIED CARD OF 'withylaw27.PairErrors'. -/
def pairErrorsCard : Claim7 := { stood := { row := pairErrorsRow, standIns := [], harness := (true, "8c7cde5d1b82b51f75363f6c4450784f0ca13e06bd497ad352e72c2dde9a6bbf"), looks := false }, kinds := [], alts := [], laidByText := true, laidKinds := [.data, .pinned], laidTests := true, laidLooks := .later }
def PairErrorsCardSaid : Prop := Claim7.holds Tryz.pinned (.plain (OpenSpec.ofChange pairErrorsSpec)) pairErrorsCard

/-- THE TIED CARD OF 'withylaw27.PairRandom'. -/
def pairRandomCard : Claim7 := { stood := { row := pairRandomRow, standIns := [], harness := (true, "8c7cde5d1b82b51f75363f6c4450784f0ca13e06bd497ad352e72c2dde9a6bbf"), looks := false }, kinds := [], alts := [], laidByText := true, laidKinds := [.data, .pinned], laidTests := true, laidLooks := .later }
def PairRandomCardSaid : Prop := Claim7.holds Tryz.pinned (.plain (OpenSpec.ofChange pairRandomSpec)) pairRandomCard

/-- THE TIED CARD OF 'withylaw27.PairScripts'. -/
def pairScriptsCard : Claim7 := { stood := { row := pairScriptsRow, standIns := [], harness := (true, "8c7cde5d1b82b51f75363f6c4450784f0ca13e06bd497ad352e72c2dde9a6bbf"), looks := false }, kinds := [], alts := [], laidByText := true, laidKinds := [.data, .pinned], laidTests := true, laidLooks := .later }
def PairScriptsCardSaid : Prop := Claim7.holds Tryz.pinned (.plain (OpenSpec.ofChange pairScriptsSpec)) pairScriptsCard

/-- THE TIED CARD OF 'withylaw27.PairSettles'. -/
def pairSettlesCard : Claim7 := { stood := { row := pairSettlesRow, standIns := [], harness := (true, "8c7cde5d1b82b51f75363f6c4450784f0ca13e06bd497ad352e72c2dde9a6bbf"), looks := false }, kinds := [], alts := [], laidByText := true, laidKinds := [.data, .pinned], laidTests := true, laidLooks := .later }
def PairSettlesCardSaid : Prop := Claim7.holds Tryz.pinned (.plain (OpenSpec.ofChange pairSettlesSpec)) pairSettlesCard

/-- THE TIED CARD OF 'withylaw27.PairMagics'. -/
def pairMagicsCard : Claim7 := { stood := { row := pairMagicsRow, standIns := [], harness := (true, "8c7cde5d1b82b51f75363f6c4450784f0ca13e06bd497ad352e72c2dde9a6bbf"), looks := false }, kinds := [], alts := [], laidByText := true, laidKinds := [.data, .pinned], laidTests := true, laidLooks := .later }
def PairMagicsCardSaid : Prop := Claim7.holds Tryz.pinned (.plain (OpenSpec.ofChange pairMagicsSpec)) pairMagicsCard

/-- THE SECOND FORM's CARD OF 'withylaw27.PairHolds'. -/
def pairHoldsUptoCard : Claim7 := { stood := { row := pairHoldsUptoRow, standIns := [], harness := (true, "8c7cde5d1b82b51f75363f6c4450784f0ca13e06bd497ad352e72c2dde9a6bbf"), looks := false }, kinds := [], alts := [], laidByText := true, laidKinds := [.data, .pinned], laidTests := true, laidLooks := .later }
def PairHoldsUptoCardSaid : Prop := Claim7.holds Tryz.pinned (.plain (OpenSpec.upto pairHoldsSpec)) pairHoldsUptoCard

/-- THE SECOND FORM's CARD OF 'withylaw27.PairTimes'. -/
def pairTimesUptoCard : Claim7 := { stood := { row := pairTimesUptoRow, standIns := [], harness := (true, "8c7cde5d1b82b51f75363f6c4450784f0ca13e06bd497ad352e72c2dde9a6bbf"), looks := false }, kinds := [], alts := [], laidByText := true, laidKinds := [.data, .pinned], laidTests := true, laidLooks := .later }
def PairTimesUptoCardSaid : Prop := Claim7.holds Tryz.pinned (.plain (OpenSpec.upto pairTimesSpec)) pairTimesUptoCard

/-- THE SECOND FORM's CARD OF 'withylaw27.PairOnce'. -/
def pairOnceUptoCard : Claim7 := { stood := { row := pairOnceUptoRow, standIns := [], harness := (true, "8c7cde5d1b82b51f75363f6c4450784f0ca13e06bd497ad352e72c2dde9a6bbf"), looks := false }, kinds := [], alts := [], laidByText := true, laidKinds := [.data, .pinned], laidTests := true, laidLooks := .later }
def PairOnceUptoCardSaid : Prop := Claim7.holds Tryz.pinned (.plain (OpenSpec.upto pairOnceSpec)) pairOnceUptoCard

/-- THE SECOND FORM's CARD OF 'withylaw27.PairForms'. -/
def pairFormsUptoCard : Claim7 := { stood := { row := pairFormsUptoRow, standIns := [], harness := (true, "8c7cde5d1b82b51f75363f6c4450784f0ca13e06bd497ad352e72c2dde9a6bbf"), looks := false }, kinds := [], alts := [], laidByText := true, laidKinds := [.data, .pinned], laidTests := true, laidLooks := .later }
def PairFormsUptoCardSaid : Prop := Claim7.holds Tryz.pinned (.plain (OpenSpec.upto pairFormsSpec)) pairFormsUptoCard

/-- THE SECOND FORM's CARD OF 'withylaw27.PairGrows'. -/
def pairGrowsUptoCard : Claim7 := { stood := { row := pairGrowsUptoRow, standIns := [], harness := (true, "8c7cde5d1b82b51f75363f6c4450784f0ca13e06bd497ad352e72c2dde9a6bbf"), looks := false }, kinds := [], alts := [], laidByText := true, laidKinds := [.data, .pinned], laidTests := true, laidLooks := .later }
def PairGrowsUptoCardSaid : Prop := Claim7.holds Tryz.pinned (.plain (OpenSpec.upto pairGrowsSpec)) pairGrowsUptoCard

/-- THE SECOND FORM's CARD OF 'withylaw27.PairSteps'. -/
def pairStepsUptoCard : Claim7 := { stood := { row := pairStepsUptoRow, standIns := [], harness := (true, "8c7cde5d1b82b51f75363f6c4450784f0ca13e06bd497ad352e72c2dde9a6bbf"), looks := false }, kinds := [], alts := [], laidByText := true, laidKinds := [.data, .pinned], laidTests := true, laidLooks := .later }
def PairStepsUptoCardSaid : Prop := Claim7.holds Tryz.pinned (.plain (OpenSpec.upto pairStepsSpec)) pairStepsUptoCard

/-- THE SECOND FORM's CARD OF 'withylaw27.PairErrors'. -/
def pairErrorsUptoCard : Claim7 := { stood := { row := pairErrorsUptoRow, standIns := [], harness := (true, "8c7cde5d1b82b51f75363f6c4450784f0ca13e06bd497ad352e72c2dde9a6bbf"), looks := false }, kinds := [], alts := [], laidByText := true, laidKinds := [.data, .pinned], laidTests := true, laidLooks := .later }
def PairErrorsUptoCardSaid : Prop := Claim7.holds Tryz.pinned (.plain (OpenSpec.upto pairErrorsSpec)) pairErrorsUptoCard

/-- THE SECOND FORM's CARD OF 'withylaw27.PairRandom'. -/
def pairRandomUptoCard : Claim7 := { stood := { row := pairRandomUptoRow, standIns := [], harness := (true, "8c7cde5d1b82b51f75363f6c4450784f0ca13e06bd497ad352e72c2dde9a6bbf"), looks := false }, kinds := [], alts := [], laidByText := true, laidKinds := [.data, .pinned], laidTests := true, laidLooks := .later }
def PairRandomUptoCardSaid : Prop := Claim7.holds Tryz.pinned (.plain (OpenSpec.upto pairRandomSpec)) pairRandomUptoCard

/-- THE SECOND FORM's CARD OF 'withylaw27.PairScripts'. -/
def pairScriptsUptoCard : Claim7 := { stood := { row := pairScriptsUptoRow, standIns := [], harness := (true, "8c7cde5d1b82b51f75363f6c4450784f0ca13e06bd497ad352e72c2dde9a6bbf"), looks := false }, kinds := [], alts := [], laidByText := true, laidKinds := [.data, .pinned], laidTests := true, laidLooks := .later }
def PairScriptsUptoCardSaid : Prop := Claim7.holds Tryz.pinned (.plain (OpenSpec.upto pairScriptsSpec)) pairScriptsUptoCard

/-- THE SECOND FORM's CARD OF 'withylaw27.PairSettles'. -/
def pairSettlesUptoCard : Claim7 := { stood := { row := pairSettlesUptoRow, standIns := [], harness := (true, "8c7cde5d1b82b51f75363f6c4450784f0ca13e06bd497ad352e72c2dde9a6bbf"), looks := false }, kinds := [], alts := [], laidByText := true, laidKinds := [.data, .pinned], laidTests := true, laidLooks := .later }
def PairSettlesUptoCardSaid : Prop := Claim7.holds Tryz.pinned (.plain (OpenSpec.upto pairSettlesSpec)) pairSettlesUptoCard

/-- THE SECOND FORM's CARD OF 'withylaw27.PairMagics'. -/
def pairMagicsUptoCard : Claim7 := { stood := { row := pairMagicsUptoRow, standIns := [], harness := (true, "8c7cde5d1b82b51f75363f6c4450784f0ca13e06bd497ad352e72c2dde9a6bbf"), looks := false }, kinds := [], alts := [], laidByText := true, laidKinds := [.data, .pinned], laidTests := true, laidLooks := .later }
def PairMagicsUptoCardSaid : Prop := Claim7.holds Tryz.pinned (.plain (OpenSpec.upto pairMagicsSpec)) pairMagicsUptoCard
end Rows
end Go.Proofs.YtncddkcponjlpaaGreatDoor
