/-
  DERIVED. GIVEN WITH THE SEED: THE CARDS: each row of YtagnbdenecphcaaDoorRows.lean that lists a variable, with what it lists TIED to the program's text (the seventh form; the later family's looks); each row that meets fmt, with fmt's text TOLD by the authors' own Lean function (tested against real Go, not proved from fmt's source: count such statements apart). THE CARD IS WHAT COUNTS. Prove the row's statement (the work); the ties are given (YtagnbdenecphcaaDoorTie.lean); close each card by the builder's one call (the guide's Derived/Test/ToyasCard.lean, 'card_holds'). Laid BY PROGRAM, IN A SANDBOX (cutbox-door.mjs). By AI agents, Wed Nov 11 2026. No macro, syntax, notation, axiom, sorry.
-/
import Derived.Test.YtagnbdenecphcaaDoorRows
import GoSem.ClaimSeven
namespace Go.Proofs.YtagnbdenecphcaaDoor
namespace Rows

/-- THE TIED CARD OF 'withylaw15.NegQuits'. -/
def negQuitsCard : Claim7 := { stood := { row := negQuitsRow, standIns := [], harness := (true, "d4a511c915e6a17b6bf218a66d26c660ca8097baf3c083678f03dd7ace4f4ba1"), looks := false }, kinds := [], alts := [], laidByText := true, laidKinds := [.data, .pinned], laidTests := true, laidLooks := .later }
def NegQuitsCardSaid : Prop := Claim7.holds Tryd.pinned (.plain (OpenSpec.ofChange negQuitsSpec)) negQuitsCard

/-- THE TIED CARD OF 'withylaw15.NegCloses'. -/
def negClosesCard : Claim7 := { stood := { row := negClosesRow, standIns := [], harness := (true, "d4a511c915e6a17b6bf218a66d26c660ca8097baf3c083678f03dd7ace4f4ba1"), looks := false }, kinds := [], alts := [], laidByText := true, laidKinds := [.data, .pinned], laidTests := true, laidLooks := .later }
def NegClosesCardSaid : Prop := Claim7.holds Tryd.pinned (.plain (OpenSpec.ofChange negClosesSpec)) negClosesCard

/-- THE TIED CARD OF 'withylaw15.NegEchoes'. -/
def negEchoesCard : Claim7 := { stood := { row := negEchoesRow, standIns := [], harness := (true, "d4a511c915e6a17b6bf218a66d26c660ca8097baf3c083678f03dd7ace4f4ba1"), looks := false }, kinds := [], alts := [], laidByText := true, laidKinds := [.data, .pinned], laidTests := true, laidLooks := .later }
def NegEchoesCardSaid : Prop := Claim7.holds Tryd.pinned (.plain (OpenSpec.ofChange negEchoesSpec)) negEchoesCard

/-- THE TIED CARD OF 'withylaw15.NegForms'. -/
def negFormsCard : Claim7 := { stood := { row := negFormsRow, standIns := [], harness := (true, "d4a511c915e6a17b6bf218a66d26c660ca8097baf3c083678f03dd7ace4f4ba1"), looks := false }, kinds := [], alts := [], laidByText := true, laidKinds := [.data, .pinned], laidTests := true, laidLooks := .later }
def NegFormsCardSaid : Prop := Claim7.holds Tryd.pinned (.plain (OpenSpec.ofChange negFormsSpec)) negFormsCard

/-- THE TIED CARD OF 'withylaw15.NegLearns'. -/
def negLearnsCard : Claim7 := { stood := { row := negLearnsRow, standIns := [], harness := (true, "d4a511c915e6a17b6bf218a66d26c660ca8097baf3c083678f03dd7ace4f4ba1"), looks := false }, kinds := [], alts := [], laidByText := true, laidKinds := [.data, .pinned], laidTests := true, laidLooks := .later }
def NegLearnsCardSaid : Prop := Claim7.holds Tryd.pinned (.plain (OpenSpec.ofChange negLearnsSpec)) negLearnsCard

/-- THE TIED CARD OF 'withylaw15.NegStale'. -/
def negStaleCard : Claim7 := { stood := { row := negStaleRow, standIns := [], harness := (true, "d4a511c915e6a17b6bf218a66d26c660ca8097baf3c083678f03dd7ace4f4ba1"), looks := false }, kinds := [], alts := [], laidByText := true, laidKinds := [.data, .pinned], laidTests := true, laidLooks := .later }
def NegStaleCardSaid : Prop := Claim7.holds Tryd.pinned (.plain (OpenSpec.ofChange negStaleSpec)) negStaleCard

/-- THE TIED CARD OF 'withylaw15.NegTwo'. -/
def negTwoCard : Claim7 := { stood := { row := negTwoRow, standIns := [], harness := (true, "d4a511c915e6a17b6bf218a66d26c660ca8097baf3c083678f03dd7ace4f4ba1"), looks := false }, kinds := [], alts := [], laidByText := true, laidKinds := [.data, .pinned], laidTests := true, laidLooks := .later }
def NegTwoCardSaid : Prop := Claim7.holds Tryd.pinned (.plain (OpenSpec.ofChange negTwoSpec)) negTwoCard

/-- THE TIED CARD OF 'withylaw15.NegAgain'. -/
def negAgainCard : Claim7 := { stood := { row := negAgainRow, standIns := [], harness := (true, "d4a511c915e6a17b6bf218a66d26c660ca8097baf3c083678f03dd7ace4f4ba1"), looks := false }, kinds := [], alts := [], laidByText := true, laidKinds := [.data, .pinned], laidTests := true, laidLooks := .later }
def NegAgainCardSaid : Prop := Claim7.holds Tryd.pinned (.plain (OpenSpec.ofChange negAgainSpec)) negAgainCard

/-- THE SECOND FORM's CARD OF 'withylaw15.NegQuits'. -/
def negQuitsUptoCard : Claim7 := { stood := { row := negQuitsUptoRow, standIns := [], harness := (true, "d4a511c915e6a17b6bf218a66d26c660ca8097baf3c083678f03dd7ace4f4ba1"), looks := false }, kinds := [], alts := [], laidByText := true, laidKinds := [.data, .pinned], laidTests := true, laidLooks := .later }
def NegQuitsUptoCardSaid : Prop := Claim7.holds Tryd.pinned (.plain (OpenSpec.upto negQuitsSpec)) negQuitsUptoCard

/-- THE SECOND FORM's CARD OF 'withylaw15.NegCloses'. -/
def negClosesUptoCard : Claim7 := { stood := { row := negClosesUptoRow, standIns := [], harness := (true, "d4a511c915e6a17b6bf218a66d26c660ca8097baf3c083678f03dd7ace4f4ba1"), looks := false }, kinds := [], alts := [], laidByText := true, laidKinds := [.data, .pinned], laidTests := true, laidLooks := .later }
def NegClosesUptoCardSaid : Prop := Claim7.holds Tryd.pinned (.plain (OpenSpec.upto negClosesSpec)) negClosesUptoCard

/-- THE SECOND FORM's CARD OF 'withylaw15.NegEchoes'. -/
def negEchoesUptoCard : Claim7 := { stood := { row := negEchoesUptoRow, standIns := [], harness := (true, "d4a511c915e6a17b6bf218a66d26c660ca8097baf3c083678f03dd7ace4f4ba1"), looks := false }, kinds := [], alts := [], laidByText := true, laidKinds := [.data, .pinned], laidTests := true, laidLooks := .later }
def NegEchoesUptoCardSaid : Prop := Claim7.holds Tryd.pinned (.plain (OpenSpec.upto negEchoesSpec)) negEchoesUptoCard

/-- THE SECOND FORM's CARD OF 'withylaw15.NegForms'. -/
def negFormsUptoCard : Claim7 := { stood := { row := negFormsUptoRow, standIns := [], harness := (true, "d4a511c915e6a17b6bf218a66d26c660ca8097baf3c083678f03dd7ace4f4ba1"), looks := false }, kinds := [], alts := [], laidByText := true, laidKinds := [.data, .pinned], laidTests := true, laidLooks := .later }
def NegFormsUptoCardSaid : Prop := Claim7.holds Tryd.pinned (.plain (OpenSpec.upto negFormsSpec)) negFormsUptoCard

/-- THE SECOND FORM's CARD OF 'withylaw15.NegLearns'. -/
def negLearnsUptoCard : Claim7 := { stood := { row := negLearnsUptoRow, standIns := [], harness := (true, "d4a511c915e6a17b6bf218a66d26c660ca8097baf3c083678f03dd7ace4f4ba1"), looks := false }, kinds := [], alts := [], laidByText := true, laidKinds := [.data, .pinned], laidTests := true, laidLooks := .later }
def NegLearnsUptoCardSaid : Prop := Claim7.holds Tryd.pinned (.plain (OpenSpec.upto negLearnsSpec)) negLearnsUptoCard

/-- THE SECOND FORM's CARD OF 'withylaw15.NegStale'. -/
def negStaleUptoCard : Claim7 := { stood := { row := negStaleUptoRow, standIns := [], harness := (true, "d4a511c915e6a17b6bf218a66d26c660ca8097baf3c083678f03dd7ace4f4ba1"), looks := false }, kinds := [], alts := [], laidByText := true, laidKinds := [.data, .pinned], laidTests := true, laidLooks := .later }
def NegStaleUptoCardSaid : Prop := Claim7.holds Tryd.pinned (.plain (OpenSpec.upto negStaleSpec)) negStaleUptoCard

/-- THE SECOND FORM's CARD OF 'withylaw15.NegTwo'. -/
def negTwoUptoCard : Claim7 := { stood := { row := negTwoUptoRow, standIns := [], harness := (true, "d4a511c915e6a17b6bf218a66d26c660ca8097baf3c083678f03dd7ace4f4ba1"), looks := false }, kinds := [], alts := [], laidByText := true, laidKinds := [.data, .pinned], laidTests := true, laidLooks := .later }
def NegTwoUptoCardSaid : Prop := Claim7.holds Tryd.pinned (.plain (OpenSpec.upto negTwoSpec)) negTwoUptoCard

/-- THE SECOND FORM's CARD OF 'withylaw15.NegAgain'. -/
def negAgainUptoCard : Claim7 := { stood := { row := negAgainUptoRow, standIns := [], harness := (true, "d4a511c915e6a17b6bf218a66d26c660ca8097baf3c083678f03dd7ace4f4ba1"), looks := false }, kinds := [], alts := [], laidByText := true, laidKinds := [.data, .pinned], laidTests := true, laidLooks := .later }
def NegAgainUptoCardSaid : Prop := Claim7.holds Tryd.pinned (.plain (OpenSpec.upto negAgainSpec)) negAgainUptoCard
end Rows
end Go.Proofs.YtagnbdenecphcaaDoor
