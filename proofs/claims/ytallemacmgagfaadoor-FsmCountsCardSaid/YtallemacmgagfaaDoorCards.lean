/-
  DERIVED. GIVEN WITH THE SEED: THE CARDS: each row of YtallemacmgagfaaDoorRows.lean that lists a variable, with what it lists TIED to the program's text (the seventh form; the later family's looks); each row that meets fmt, with fmt's text TOLD by the authors' own Lean function (tested against real Go, not proved from fmt's source: count such statements apart). THE CARD IS WHAT COUNTS. Prove the row's statement (the work); the ties are given (YtallemacmgagfaaDoorTie.lean); close each card by the builder's one call (the guide's Derived/Test/ToyasCard.lean, 'card_holds'). Laid BY PROGRAM, IN A SANDBOX (cutbox-door.mjs). By AI agents, Wed Nov 11 2026. No macro, syntax, notation, axiom, sorry.
-/
import Derived.Test.YtallemacmgagfaaDoorRows
import GoSem.ClaimSeven
namespace Go.Proofs.YtallemacmgagfaaDoor
namespace Rows

/-- THE TIED CARD OF 'withylaw10.Fsms'. -/
def fsmsCard : Claim7 := { stood := { row := fsmsRow, standIns := [], harness := (true, "9216778e42a6d89418693426b0448c8654318a7a1859d5ad1431832016e13f3a"), looks := false }, kinds := [], alts := [], laidByText := true, laidKinds := [.data, .pinned], laidTests := true, laidLooks := .later }
def FsmsCardSaid : Prop := Claim7.holds Tryd.pinned (.plain (OpenSpec.ofChange fsmsSpec)) fsmsCard

/-- THE TIED CARD OF 'withylaw10.FsmTable'. -/
def fsmTableCard : Claim7 := { stood := { row := fsmTableRow, standIns := [], harness := (true, "9216778e42a6d89418693426b0448c8654318a7a1859d5ad1431832016e13f3a"), looks := false }, kinds := [], alts := [], laidByText := true, laidKinds := [.data, .pinned], laidTests := true, laidLooks := .later }
def FsmTableCardSaid : Prop := Claim7.holds Tryd.pinned (.plain (OpenSpec.ofChange fsmTableSpec)) fsmTableCard

/-- THE TIED CARD OF 'withylaw10.FsmUps'. -/
def fsmUpsCard : Claim7 := { stood := { row := fsmUpsRow, standIns := [], harness := (true, "9216778e42a6d89418693426b0448c8654318a7a1859d5ad1431832016e13f3a"), looks := false }, kinds := [], alts := [], laidByText := true, laidKinds := [.data, .pinned], laidTests := true, laidLooks := .later }
def FsmUpsCardSaid : Prop := Claim7.holds Tryd.pinned (.plain (OpenSpec.ofChange fsmUpsSpec)) fsmUpsCard

/-- THE TIED CARD OF 'withylaw10.FsmEnds'. -/
def fsmEndsCard : Claim7 := { stood := { row := fsmEndsRow, standIns := [], harness := (true, "9216778e42a6d89418693426b0448c8654318a7a1859d5ad1431832016e13f3a"), looks := false }, kinds := [], alts := [], laidByText := true, laidKinds := [.data, .pinned], laidTests := true, laidLooks := .later }
def FsmEndsCardSaid : Prop := Claim7.holds Tryd.pinned (.plain (OpenSpec.ofChange fsmEndsSpec)) fsmEndsCard

/-- THE TIED CARD OF 'withylaw10.FsmDowns'. -/
def fsmDownsCard : Claim7 := { stood := { row := fsmDownsRow, standIns := [], harness := (true, "9216778e42a6d89418693426b0448c8654318a7a1859d5ad1431832016e13f3a"), looks := false }, kinds := [], alts := [], laidByText := true, laidKinds := [.data, .pinned], laidTests := true, laidLooks := .later }
def FsmDownsCardSaid : Prop := Claim7.holds Tryd.pinned (.plain (OpenSpec.ofChange fsmDownsSpec)) fsmDownsCard

/-- THE TIED CARD OF 'withylaw10.FsmAnswers'. -/
def fsmAnswersCard : Claim7 := { stood := { row := fsmAnswersRow, standIns := [], harness := (true, "9216778e42a6d89418693426b0448c8654318a7a1859d5ad1431832016e13f3a"), looks := false }, kinds := [], alts := [], laidByText := true, laidKinds := [.data, .pinned], laidTests := true, laidLooks := .later }
def FsmAnswersCardSaid : Prop := Claim7.holds Tryd.pinned (.plain (OpenSpec.ofChange fsmAnswersSpec)) fsmAnswersCard

/-- THE TIED CARD OF 'withylaw10.FsmCounts'. -/
def fsmCountsCard : Claim7 := { stood := { row := fsmCountsRow, standIns := [], harness := (true, "9216778e42a6d89418693426b0448c8654318a7a1859d5ad1431832016e13f3a"), looks := false }, kinds := [], alts := [], laidByText := true, laidKinds := [.data, .pinned], laidTests := true, laidLooks := .later }
def FsmCountsCardSaid : Prop := Claim7.holds Tryd.pinned (.plain (OpenSpec.ofChange fsmCountsSpec)) fsmCountsCard

/-- THE SECOND FORM's CARD OF 'withylaw10.Fsms'. -/
def fsmsUptoCard : Claim7 := { stood := { row := fsmsUptoRow, standIns := [], harness := (true, "9216778e42a6d89418693426b0448c8654318a7a1859d5ad1431832016e13f3a"), looks := false }, kinds := [], alts := [], laidByText := true, laidKinds := [.data, .pinned], laidTests := true, laidLooks := .later }
def FsmsUptoCardSaid : Prop := Claim7.holds Tryd.pinned (.plain (OpenSpec.upto fsmsSpec)) fsmsUptoCard

/-- THE SECOND FORM's CARD OF 'withylaw10.FsmTable'. -/
def fsmTableUptoCard : Claim7 := { stood := { row := fsmTableUptoRow, standIns := [], harness := (true, "9216778e42a6d89418693426b0448c8654318a7a1859d5ad1431832016e13f3a"), looks := false }, kinds := [], alts := [], laidByText := true, laidKinds := [.data, .pinned], laidTests := true, laidLooks := .later }
def FsmTableUptoCardSaid : Prop := Claim7.holds Tryd.pinned (.plain (OpenSpec.upto fsmTableSpec)) fsmTableUptoCard

/-- THE SECOND FORM's CARD OF 'withylaw10.FsmUps'. -/
def fsmUpsUptoCard : Claim7 := { stood := { row := fsmUpsUptoRow, standIns := [], harness := (true, "9216778e42a6d89418693426b0448c8654318a7a1859d5ad1431832016e13f3a"), looks := false }, kinds := [], alts := [], laidByText := true, laidKinds := [.data, .pinned], laidTests := true, laidLooks := .later }
def FsmUpsUptoCardSaid : Prop := Claim7.holds Tryd.pinned (.plain (OpenSpec.upto fsmUpsSpec)) fsmUpsUptoCard

/-- THE SECOND FORM's CARD OF 'withylaw10.FsmEnds'. -/
def fsmEndsUptoCard : Claim7 := { stood := { row := fsmEndsUptoRow, standIns := [], harness := (true, "9216778e42a6d89418693426b0448c8654318a7a1859d5ad1431832016e13f3a"), looks := false }, kinds := [], alts := [], laidByText := true, laidKinds := [.data, .pinned], laidTests := true, laidLooks := .later }
def FsmEndsUptoCardSaid : Prop := Claim7.holds Tryd.pinned (.plain (OpenSpec.upto fsmEndsSpec)) fsmEndsUptoCard

/-- THE SECOND FORM's CARD OF 'withylaw10.FsmDowns'. -/
def fsmDownsUptoCard : Claim7 := { stood := { row := fsmDownsUptoRow, standIns := [], harness := (true, "9216778e42a6d89418693426b0448c8654318a7a1859d5ad1431832016e13f3a"), looks := false }, kinds := [], alts := [], laidByText := true, laidKinds := [.data, .pinned], laidTests := true, laidLooks := .later }
def FsmDownsUptoCardSaid : Prop := Claim7.holds Tryd.pinned (.plain (OpenSpec.upto fsmDownsSpec)) fsmDownsUptoCard

/-- THE SECOND FORM's CARD OF 'withylaw10.FsmAnswers'. -/
def fsmAnswersUptoCard : Claim7 := { stood := { row := fsmAnswersUptoRow, standIns := [], harness := (true, "9216778e42a6d89418693426b0448c8654318a7a1859d5ad1431832016e13f3a"), looks := false }, kinds := [], alts := [], laidByText := true, laidKinds := [.data, .pinned], laidTests := true, laidLooks := .later }
def FsmAnswersUptoCardSaid : Prop := Claim7.holds Tryd.pinned (.plain (OpenSpec.upto fsmAnswersSpec)) fsmAnswersUptoCard

/-- THE SECOND FORM's CARD OF 'withylaw10.FsmCounts'. -/
def fsmCountsUptoCard : Claim7 := { stood := { row := fsmCountsUptoRow, standIns := [], harness := (true, "9216778e42a6d89418693426b0448c8654318a7a1859d5ad1431832016e13f3a"), looks := false }, kinds := [], alts := [], laidByText := true, laidKinds := [.data, .pinned], laidTests := true, laidLooks := .later }
def FsmCountsUptoCardSaid : Prop := Claim7.holds Tryd.pinned (.plain (OpenSpec.upto fsmCountsSpec)) fsmCountsUptoCard
end Rows
end Go.Proofs.YtallemacmgagfaaDoor
