/-
  NARROWER THAN 'FOR EVERY INPUT', by the rows' own cells (each row's printed sentence says how): NegQuits: laid · NegCloses: laid · NegEchoes: laid · NegForms: laid · NegLearns: laid · NegStale: laid · NegTwo: laid · NegAgain: laid.
  DERIVED. THE GIVEN ROWS OF THIS SEAT. 8 by the template 'for every input the law returns true; each argument reads behind the call as it read before'; 0 by the template 'total and deterministic' (their statements: YtagnbdenecphcaaDoorTotals.lean).
  GIVEN WITH THE SEED: the statements are not yours to turn. If you find one false, say at which input.
  Laid BY PROGRAM, IN A SANDBOX (cutbox-rows.mjs): the forced cells as the released guide's own fill.sh prints them over the translation f0c3a2354a0105fe… (all of the seat's roots in one cut). By AI agents, Wed Nov 11 2026. No macro, syntax, notation, axiom, sorry.
-/
import Derived.Test.YtagnbdenecphcaaDoorChecked
import GoSem.PinnedTables
import GoSem.Claim
import GoSem.ClaimJoined
import GoSem.ClaimMapViews
import Derived.JoinedTies
import Derived.KernelRfl
namespace Go.Proofs.YtagnbdenecphcaaDoor
/- THE CELL 'sum', in the pinned program and in every row, IS THE sha256 OF THE DUMP (.gsa) THAT YtagnbdenecphcaaDoorProg.lean LOADS. Nothing in Lean hashes anything: it is a label: what it is worth is what the hold of that sum in a sandbox is worth. -/
noncomputable def Tryd.pinned : Pinned := { name := "ytagnbdenecphcaadoor", sum := "f0c3a2354a0105fe98c806251bb1c31f4b9996016035b906fbb7fe56abb2a94c", checked := Tryd.checked }
namespace Rows
def none {H : Type} : Left H := { results := [], args := [] }

/- WHAT THE LISTED PACKAGE-LEVEL VARIABLES READ AS WHEN THE CALL BEGINS. Each datum BY PROGRAM (the guide's laid-datum.mjs) off the statement by which the dump's own 'gosem.cut.vars' lays the variable. In a bare row this is a premise. The card (YtagnbdenecphcaaDoorCards.lean) ties it to the program's text. -/
def laid_unicode_utf8_acceptRanges {H : Type} : DataW H := .agg [.agg [.lit (.int .u8 128), .lit (.int .u8 191)], .agg [.lit (.int .u8 160), .lit (.int .u8 191)], .agg [.lit (.int .u8 128), .lit (.int .u8 159)], .agg [.lit (.int .u8 144), .lit (.int .u8 191)], .agg [.lit (.int .u8 128), .lit (.int .u8 143)], .agg [.lit (.int .u8 0), .lit (.int .u8 0)], .agg [.lit (.int .u8 0), .lit (.int .u8 0)], .agg [.lit (.int .u8 0), .lit (.int .u8 0)], .agg [.lit (.int .u8 0), .lit (.int .u8 0)], .agg [.lit (.int .u8 0), .lit (.int .u8 0)], .agg [.lit (.int .u8 0), .lit (.int .u8 0)], .agg [.lit (.int .u8 0), .lit (.int .u8 0)], .agg [.lit (.int .u8 0), .lit (.int .u8 0)], .agg [.lit (.int .u8 0), .lit (.int .u8 0)], .agg [.lit (.int .u8 0), .lit (.int .u8 0)], .agg [.lit (.int .u8 0), .lit (.int .u8 0)]]
/-- One of Go's own tables, pinned by name: the form's constant. -/
def laid_unicode_utf8_first : DataW Unit := Go.Pinned.utf8First

/-- 'withylaw15.NegQuits': WHATEVER THE INPUT: true; the input reads as it did. -/
def negQuitsSpec : ChangeSpec := { name := "negQuits", fn := fun _ => fun
  | [d1, d2] => { results := [.lit (.bool true)], args := [d1, d2] }
  | _ => none }
def negQuitsRow : OpenClaim := { program := "ytagnbdenecphcaadoor", sum := "f0c3a2354a0105fe98c806251bb1c31f4b9996016035b906fbb7fe56abb2a94c", func := "withy/withylaw15.NegQuits", spec := "negQuits", inPlace := ["internal/bytealg.IndexByteString", "internal/bytealg.IndexString", "internal/bytealg.CountString", "internal/abi.NoEscape"], unfollowed := true, recurses := true, named := ["internal/bytealg.MaxLen", "unicode/utf8.first", "unicode/utf8.acceptRanges"], apart := false, laid := [("unicode/utf8.acceptRanges", laid_unicode_utf8_acceptRanges), ("unicode/utf8.first", laid_unicode_utf8_first)] }
def NegQuitsSaid : Prop := negQuitsRow.holds Tryd.pinned (OpenSpec.ofChange negQuitsSpec)

/-- ITS FALSE NEIGHBOUR: 'it returns false'. Refute it at one input. -/
def negQuitsWrong : ChangeSpec := { name := "negQuits", fn := fun _ => fun
  | [d1, d2] => { results := [.lit (.bool false)], args := [d1, d2] }
  | _ => none }
def NegQuitsWrongFalsely : Prop := negQuitsRow.holds Tryd.pinned (OpenSpec.ofChange negQuitsWrong)

/-- 'withylaw15.NegCloses': WHATEVER THE INPUT: true; the input reads as it did. -/
def negClosesSpec : ChangeSpec := { name := "negCloses", fn := fun _ => fun
  | [d1, d2] => { results := [.lit (.bool true)], args := [d1, d2] }
  | _ => none }
def negClosesRow : OpenClaim := { program := "ytagnbdenecphcaadoor", sum := "f0c3a2354a0105fe98c806251bb1c31f4b9996016035b906fbb7fe56abb2a94c", func := "withy/withylaw15.NegCloses", spec := "negCloses", inPlace := ["internal/bytealg.IndexByteString", "internal/bytealg.IndexString", "internal/bytealg.CountString", "internal/abi.NoEscape"], unfollowed := true, recurses := true, named := ["internal/bytealg.MaxLen", "unicode/utf8.first", "unicode/utf8.acceptRanges"], apart := false, laid := [("unicode/utf8.acceptRanges", laid_unicode_utf8_acceptRanges), ("unicode/utf8.first", laid_unicode_utf8_first)] }
def NegClosesSaid : Prop := negClosesRow.holds Tryd.pinned (OpenSpec.ofChange negClosesSpec)

/-- ITS FALSE NEIGHBOUR: 'it returns false'. Refute it at one input. -/
def negClosesWrong : ChangeSpec := { name := "negCloses", fn := fun _ => fun
  | [d1, d2] => { results := [.lit (.bool false)], args := [d1, d2] }
  | _ => none }
def NegClosesWrongFalsely : Prop := negClosesRow.holds Tryd.pinned (OpenSpec.ofChange negClosesWrong)

/-- 'withylaw15.NegEchoes': WHATEVER THE INPUT: true; the input reads as it did. -/
def negEchoesSpec : ChangeSpec := { name := "negEchoes", fn := fun _ => fun
  | [d1, d2, d3, d4] => { results := [.lit (.bool true)], args := [d1, d2, d3, d4] }
  | _ => none }
def negEchoesRow : OpenClaim := { program := "ytagnbdenecphcaadoor", sum := "f0c3a2354a0105fe98c806251bb1c31f4b9996016035b906fbb7fe56abb2a94c", func := "withy/withylaw15.NegEchoes", spec := "negEchoes", inPlace := ["internal/bytealg.IndexByteString", "internal/bytealg.IndexString", "internal/bytealg.CountString", "internal/abi.NoEscape"], unfollowed := true, recurses := true, named := ["internal/bytealg.MaxLen", "unicode/utf8.first", "unicode/utf8.acceptRanges"], apart := false, laid := [("unicode/utf8.acceptRanges", laid_unicode_utf8_acceptRanges), ("unicode/utf8.first", laid_unicode_utf8_first)] }
def NegEchoesSaid : Prop := negEchoesRow.holds Tryd.pinned (OpenSpec.ofChange negEchoesSpec)

/-- ITS FALSE NEIGHBOUR: 'it returns false'. Refute it at one input. -/
def negEchoesWrong : ChangeSpec := { name := "negEchoes", fn := fun _ => fun
  | [d1, d2, d3, d4] => { results := [.lit (.bool false)], args := [d1, d2, d3, d4] }
  | _ => none }
def NegEchoesWrongFalsely : Prop := negEchoesRow.holds Tryd.pinned (OpenSpec.ofChange negEchoesWrong)

/-- 'withylaw15.NegForms': WHATEVER THE INPUT: true; the input reads as it did. -/
def negFormsSpec : ChangeSpec := { name := "negForms", fn := fun _ => fun
  | [d1, d2, d3] => { results := [.lit (.bool true)], args := [d1, d2, d3] }
  | _ => none }
def negFormsRow : OpenClaim := { program := "ytagnbdenecphcaadoor", sum := "f0c3a2354a0105fe98c806251bb1c31f4b9996016035b906fbb7fe56abb2a94c", func := "withy/withylaw15.NegForms", spec := "negForms", inPlace := ["internal/bytealg.IndexByteString", "internal/bytealg.IndexString", "internal/bytealg.CountString", "internal/abi.NoEscape"], unfollowed := true, recurses := true, named := ["internal/bytealg.MaxLen", "unicode/utf8.first", "unicode/utf8.acceptRanges"], apart := false, laid := [("unicode/utf8.acceptRanges", laid_unicode_utf8_acceptRanges), ("unicode/utf8.first", laid_unicode_utf8_first)] }
def NegFormsSaid : Prop := negFormsRow.holds Tryd.pinned (OpenSpec.ofChange negFormsSpec)

/-- ITS FALSE NEIGHBOUR: 'it returns false'. Refute it at one input. -/
def negFormsWrong : ChangeSpec := { name := "negForms", fn := fun _ => fun
  | [d1, d2, d3] => { results := [.lit (.bool false)], args := [d1, d2, d3] }
  | _ => none }
def NegFormsWrongFalsely : Prop := negFormsRow.holds Tryd.pinned (OpenSpec.ofChange negFormsWrong)

/-- 'withylaw15.NegLearns': WHATEVER THE INPUT: true; the input reads as it did. -/
def negLearnsSpec : ChangeSpec := { name := "negLearns", fn := fun _ => fun
  | [d1, d2] => { results := [.lit (.bool true)], args := [d1, d2] }
  | _ => none }
def negLearnsRow : OpenClaim := { program := "ytagnbdenecphcaadoor", sum := "f0c3a2354a0105fe98c806251bb1c31f4b9996016035b906fbb7fe56abb2a94c", func := "withy/withylaw15.NegLearns", spec := "negLearns", inPlace := ["internal/bytealg.IndexByteString", "internal/bytealg.IndexString", "internal/bytealg.CountString", "internal/abi.NoEscape"], unfollowed := true, recurses := true, named := ["internal/bytealg.MaxLen", "unicode/utf8.first", "unicode/utf8.acceptRanges"], apart := false, laid := [("unicode/utf8.acceptRanges", laid_unicode_utf8_acceptRanges), ("unicode/utf8.first", laid_unicode_utf8_first)] }
def NegLearnsSaid : Prop := negLearnsRow.holds Tryd.pinned (OpenSpec.ofChange negLearnsSpec)

/-- ITS FALSE NEIGHBOUR: 'it returns false'. Refute it at one input. -/
def negLearnsWrong : ChangeSpec := { name := "negLearns", fn := fun _ => fun
  | [d1, d2] => { results := [.lit (.bool false)], args := [d1, d2] }
  | _ => none }
def NegLearnsWrongFalsely : Prop := negLearnsRow.holds Tryd.pinned (OpenSpec.ofChange negLearnsWrong)

/-- 'withylaw15.NegStale': WHATEVER THE INPUT: true; the input reads as it did. -/
def negStaleSpec : ChangeSpec := { name := "negStale", fn := fun _ => fun
  | [d1, d2, d3] => { results := [.lit (.bool true)], args := [d1, d2, d3] }
  | _ => none }
def negStaleRow : OpenClaim := { program := "ytagnbdenecphcaadoor", sum := "f0c3a2354a0105fe98c806251bb1c31f4b9996016035b906fbb7fe56abb2a94c", func := "withy/withylaw15.NegStale", spec := "negStale", inPlace := ["internal/bytealg.IndexByteString", "internal/bytealg.IndexString", "internal/bytealg.CountString", "internal/abi.NoEscape"], unfollowed := true, recurses := true, named := ["internal/bytealg.MaxLen", "unicode/utf8.first", "unicode/utf8.acceptRanges"], apart := false, laid := [("unicode/utf8.acceptRanges", laid_unicode_utf8_acceptRanges), ("unicode/utf8.first", laid_unicode_utf8_first)] }
def NegStaleSaid : Prop := negStaleRow.holds Tryd.pinned (OpenSpec.ofChange negStaleSpec)

/-- ITS FALSE NEIGHBOUR: 'it returns false'. Refute it at one input. -/
def negStaleWrong : ChangeSpec := { name := "negStale", fn := fun _ => fun
  | [d1, d2, d3] => { results := [.lit (.bool false)], args := [d1, d2, d3] }
  | _ => none }
def NegStaleWrongFalsely : Prop := negStaleRow.holds Tryd.pinned (OpenSpec.ofChange negStaleWrong)

/-- 'withylaw15.NegTwo': WHATEVER THE INPUT: true; the input reads as it did. -/
def negTwoSpec : ChangeSpec := { name := "negTwo", fn := fun _ => fun
  | [d1, d2, d3] => { results := [.lit (.bool true)], args := [d1, d2, d3] }
  | _ => none }
def negTwoRow : OpenClaim := { program := "ytagnbdenecphcaadoor", sum := "f0c3a2354a0105fe98c806251bb1c31f4b9996016035b906fbb7fe56abb2a94c", func := "withy/withylaw15.NegTwo", spec := "negTwo", inPlace := ["internal/bytealg.IndexByteString", "internal/bytealg.IndexString", "internal/bytealg.CountString", "internal/abi.NoEscape"], unfollowed := true, recurses := true, named := ["internal/bytealg.MaxLen", "unicode/utf8.first", "unicode/utf8.acceptRanges"], apart := false, laid := [("unicode/utf8.acceptRanges", laid_unicode_utf8_acceptRanges), ("unicode/utf8.first", laid_unicode_utf8_first)] }
def NegTwoSaid : Prop := negTwoRow.holds Tryd.pinned (OpenSpec.ofChange negTwoSpec)

/-- ITS FALSE NEIGHBOUR: 'it returns false'. Refute it at one input. -/
def negTwoWrong : ChangeSpec := { name := "negTwo", fn := fun _ => fun
  | [d1, d2, d3] => { results := [.lit (.bool false)], args := [d1, d2, d3] }
  | _ => none }
def NegTwoWrongFalsely : Prop := negTwoRow.holds Tryd.pinned (OpenSpec.ofChange negTwoWrong)

/-- 'withylaw15.NegAgain': WHATEVER THE INPUT: true; the input reads as it did. -/
def negAgainSpec : ChangeSpec := { name := "negAgain", fn := fun _ => fun
  | [d1, d2] => { results := [.lit (.bool true)], args := [d1, d2] }
  | _ => none }
def negAgainRow : OpenClaim := { program := "ytagnbdenecphcaadoor", sum := "f0c3a2354a0105fe98c806251bb1c31f4b9996016035b906fbb7fe56abb2a94c", func := "withy/withylaw15.NegAgain", spec := "negAgain", inPlace := ["internal/bytealg.IndexByteString", "internal/bytealg.IndexString", "internal/bytealg.CountString", "internal/abi.NoEscape"], unfollowed := true, recurses := true, named := ["internal/bytealg.MaxLen", "unicode/utf8.first", "unicode/utf8.acceptRanges"], apart := false, laid := [("unicode/utf8.acceptRanges", laid_unicode_utf8_acceptRanges), ("unicode/utf8.first", laid_unicode_utf8_first)] }
def NegAgainSaid : Prop := negAgainRow.holds Tryd.pinned (OpenSpec.ofChange negAgainSpec)

/-- ITS FALSE NEIGHBOUR: 'it returns false'. Refute it at one input. -/
def negAgainWrong : ChangeSpec := { name := "negAgain", fn := fun _ => fun
  | [d1, d2] => { results := [.lit (.bool false)], args := [d1, d2] }
  | _ => none }
def NegAgainWrongFalsely : Prop := negAgainRow.holds Tryd.pinned (OpenSpec.ofChange negAgainWrong)

/- THE SECOND FORM. 'bulk': how many values and letters a reading holds, each counted each time it is reached (what is shared counts as often as it is met; a slice's spare places count too). A statement '..UptoSaid' is the law's where the arguments, and the package variables that the reading takes, are together of bulk at most 1048576: NARROWER than '..Said'. Prove '..Said' where nothing that the law and all that it calls make is longer than what came in: it says more and counts as full. Else prove '..UptoSaid'. A law counts once. -/
mutual
def uptoBulk {H : Type} : DataW H → Nat
  | .lit (.string bytes) => bytes.length + 1
  | .lit _ => 1
  | .nil => 1
  | .ptr d => uptoBulk d + 1
  | .slice elems spare => uptoBulkAll elems + uptoBulkAll spare + 1
  | .agg parts => uptoBulkAll parts + 1
  | .iface _ d => uptoBulk d + 1
  | .map entries => uptoBulkEntries entries + 1
  | .held _ => 1
def uptoBulkAll {H : Type} : List (DataW H) → Nat
  | [] => 0
  | d :: r => uptoBulk d + uptoBulkAll r
def uptoBulkEntries {H : Type} : List (Lit × DataW H) → Nat
  | [] => 0
  | x :: r => uptoBulkEntry x + uptoBulkEntries r
def uptoBulkEntry {H : Type} : Lit × DataW H → Nat
  | (.string bytes, d) => bytes.length + uptoBulk d + 1
  | (_, d) => uptoBulk d + 1
 end
def uptoSmall : (H : Type) → List (DataW H) → Bool := fun _ ds => decide (uptoBulkAll ds ≤ 1048576)
def OpenSpec.upto (s : _root_.Go.ChangeSpec) : _root_.Go.OpenSpec := { _root_.Go.OpenSpec.ofChange s with cond := some uptoSmall }

/-- 'withylaw15.NegQuits', WHERE WHAT IT READS IS OF BULK AT MOST 1048576: true; the input reads as it did. -/
def negQuitsUptoRow : OpenClaim := { program := "ytagnbdenecphcaadoor", sum := "f0c3a2354a0105fe98c806251bb1c31f4b9996016035b906fbb7fe56abb2a94c", func := "withy/withylaw15.NegQuits", spec := "negQuits", inPlace := ["internal/bytealg.IndexByteString", "internal/bytealg.IndexString", "internal/bytealg.CountString", "internal/abi.NoEscape"], unfollowed := true, recurses := true, named := ["internal/bytealg.MaxLen", "unicode/utf8.first", "unicode/utf8.acceptRanges"], apart := false, laid := [("unicode/utf8.acceptRanges", laid_unicode_utf8_acceptRanges), ("unicode/utf8.first", laid_unicode_utf8_first)], narrowed := true }
def NegQuitsUptoSaid : Prop := negQuitsUptoRow.holds Tryd.pinned (OpenSpec.upto negQuitsSpec)

/-- 'withylaw15.NegCloses', WHERE WHAT IT READS IS OF BULK AT MOST 1048576: true; the input reads as it did. -/
def negClosesUptoRow : OpenClaim := { program := "ytagnbdenecphcaadoor", sum := "f0c3a2354a0105fe98c806251bb1c31f4b9996016035b906fbb7fe56abb2a94c", func := "withy/withylaw15.NegCloses", spec := "negCloses", inPlace := ["internal/bytealg.IndexByteString", "internal/bytealg.IndexString", "internal/bytealg.CountString", "internal/abi.NoEscape"], unfollowed := true, recurses := true, named := ["internal/bytealg.MaxLen", "unicode/utf8.first", "unicode/utf8.acceptRanges"], apart := false, laid := [("unicode/utf8.acceptRanges", laid_unicode_utf8_acceptRanges), ("unicode/utf8.first", laid_unicode_utf8_first)], narrowed := true }
def NegClosesUptoSaid : Prop := negClosesUptoRow.holds Tryd.pinned (OpenSpec.upto negClosesSpec)

/-- 'withylaw15.NegEchoes', WHERE WHAT IT READS IS OF BULK AT MOST 1048576: true; the input reads as it did. -/
def negEchoesUptoRow : OpenClaim := { program := "ytagnbdenecphcaadoor", sum := "f0c3a2354a0105fe98c806251bb1c31f4b9996016035b906fbb7fe56abb2a94c", func := "withy/withylaw15.NegEchoes", spec := "negEchoes", inPlace := ["internal/bytealg.IndexByteString", "internal/bytealg.IndexString", "internal/bytealg.CountString", "internal/abi.NoEscape"], unfollowed := true, recurses := true, named := ["internal/bytealg.MaxLen", "unicode/utf8.first", "unicode/utf8.acceptRanges"], apart := false, laid := [("unicode/utf8.acceptRanges", laid_unicode_utf8_acceptRanges), ("unicode/utf8.first", laid_unicode_utf8_first)], narrowed := true }
def NegEchoesUptoSaid : Prop := negEchoesUptoRow.holds Tryd.pinned (OpenSpec.upto negEchoesSpec)

/-- 'withylaw15.NegForms', WHERE WHAT IT READS IS OF BULK AT MOST 1048576: true; the input reads as it did. -/
def negFormsUptoRow : OpenClaim := { program := "ytagnbdenecphcaadoor", sum := "f0c3a2354a0105fe98c806251bb1c31f4b9996016035b906fbb7fe56abb2a94c", func := "withy/withylaw15.NegForms", spec := "negForms", inPlace := ["internal/bytealg.IndexByteString", "internal/bytealg.IndexString", "internal/bytealg.CountString", "internal/abi.NoEscape"], unfollowed := true, recurses := true, named := ["internal/bytealg.MaxLen", "unicode/utf8.first", "unicode/utf8.acceptRanges"], apart := false, laid := [("unicode/utf8.acceptRanges", laid_unicode_utf8_acceptRanges), ("unicode/utf8.first", laid_unicode_utf8_first)], narrowed := true }
def NegFormsUptoSaid : Prop := negFormsUptoRow.holds Tryd.pinned (OpenSpec.upto negFormsSpec)

/-- 'withylaw15.NegLearns', WHERE WHAT IT READS IS OF BULK AT MOST 1048576: true; the input reads as it did. -/
def negLearnsUptoRow : OpenClaim := { program := "ytagnbdenecphcaadoor", sum := "f0c3a2354a0105fe98c806251bb1c31f4b9996016035b906fbb7fe56abb2a94c", func := "withy/withylaw15.NegLearns", spec := "negLearns", inPlace := ["internal/bytealg.IndexByteString", "internal/bytealg.IndexString", "internal/bytealg.CountString", "internal/abi.NoEscape"], unfollowed := true, recurses := true, named := ["internal/bytealg.MaxLen", "unicode/utf8.first", "unicode/utf8.acceptRanges"], apart := false, laid := [("unicode/utf8.acceptRanges", laid_unicode_utf8_acceptRanges), ("unicode/utf8.first", laid_unicode_utf8_first)], narrowed := true }
def NegLearnsUptoSaid : Prop := negLearnsUptoRow.holds Tryd.pinned (OpenSpec.upto negLearnsSpec)

/-- 'withylaw15.NegStale', WHERE WHAT IT READS IS OF BULK AT MOST 1048576: true; the input reads as it did. -/
def negStaleUptoRow : OpenClaim := { program := "ytagnbdenecphcaadoor", sum := "f0c3a2354a0105fe98c806251bb1c31f4b9996016035b906fbb7fe56abb2a94c", func := "withy/withylaw15.NegStale", spec := "negStale", inPlace := ["internal/bytealg.IndexByteString", "internal/bytealg.IndexString", "internal/bytealg.CountString", "internal/abi.NoEscape"], unfollowed := true, recurses := true, named := ["internal/bytealg.MaxLen", "unicode/utf8.first", "unicode/utf8.acceptRanges"], apart := false, laid := [("unicode/utf8.acceptRanges", laid_unicode_utf8_acceptRanges), ("unicode/utf8.first", laid_unicode_utf8_first)], narrowed := true }
def NegStaleUptoSaid : Prop := negStaleUptoRow.holds Tryd.pinned (OpenSpec.upto negStaleSpec)

/-- 'withylaw15.NegTwo', WHERE WHAT IT READS IS OF BULK AT MOST 1048576: true; the input reads as it did. -/
def negTwoUptoRow : OpenClaim := { program := "ytagnbdenecphcaadoor", sum := "f0c3a2354a0105fe98c806251bb1c31f4b9996016035b906fbb7fe56abb2a94c", func := "withy/withylaw15.NegTwo", spec := "negTwo", inPlace := ["internal/bytealg.IndexByteString", "internal/bytealg.IndexString", "internal/bytealg.CountString", "internal/abi.NoEscape"], unfollowed := true, recurses := true, named := ["internal/bytealg.MaxLen", "unicode/utf8.first", "unicode/utf8.acceptRanges"], apart := false, laid := [("unicode/utf8.acceptRanges", laid_unicode_utf8_acceptRanges), ("unicode/utf8.first", laid_unicode_utf8_first)], narrowed := true }
def NegTwoUptoSaid : Prop := negTwoUptoRow.holds Tryd.pinned (OpenSpec.upto negTwoSpec)

/-- 'withylaw15.NegAgain', WHERE WHAT IT READS IS OF BULK AT MOST 1048576: true; the input reads as it did. -/
def negAgainUptoRow : OpenClaim := { program := "ytagnbdenecphcaadoor", sum := "f0c3a2354a0105fe98c806251bb1c31f4b9996016035b906fbb7fe56abb2a94c", func := "withy/withylaw15.NegAgain", spec := "negAgain", inPlace := ["internal/bytealg.IndexByteString", "internal/bytealg.IndexString", "internal/bytealg.CountString", "internal/abi.NoEscape"], unfollowed := true, recurses := true, named := ["internal/bytealg.MaxLen", "unicode/utf8.first", "unicode/utf8.acceptRanges"], apart := false, laid := [("unicode/utf8.acceptRanges", laid_unicode_utf8_acceptRanges), ("unicode/utf8.first", laid_unicode_utf8_first)], narrowed := true }
def NegAgainUptoSaid : Prop := negAgainUptoRow.holds Tryd.pinned (OpenSpec.upto negAgainSpec)

end Rows
end Go.Proofs.YtagnbdenecphcaaDoor
