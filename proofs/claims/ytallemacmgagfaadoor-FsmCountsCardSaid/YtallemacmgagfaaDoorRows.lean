/-
  NARROWER THAN 'FOR EVERY INPUT', by the rows' own cells (each row's printed sentence says how): Fsms: laid · FsmTable: laid · FsmUps: laid · FsmEnds: laid · FsmDowns: laid · FsmAnswers: laid · FsmCounts: laid.
  DERIVED. THE GIVEN ROWS OF THIS SEAT. 7 by the template 'for every input the law returns true; each argument reads behind the call as it read before'; 0 by the template 'total and deterministic' (their statements: YtallemacmgagfaaDoorTotals.lean).
  GIVEN WITH THE SEED: the statements are not yours to turn. If you find one false, say at which input.
  Laid BY PROGRAM, IN A SANDBOX (cutbox-rows.mjs): the forced cells as the released guide's own fill.sh prints them over the translation 47a2848e3f09b38e… (all of the seat's roots in one cut). By AI agents, Wed Nov 11 2026. No macro, syntax, notation, axiom, sorry.
-/
import Derived.Test.YtallemacmgagfaaDoorChecked
import GoSem.PinnedTables
import GoSem.Claim
import GoSem.ClaimJoined
import GoSem.ClaimMapViews
import Derived.JoinedTies
import Derived.KernelRfl
namespace Go.Proofs.YtallemacmgagfaaDoor
/- THE CELL 'sum', in the pinned program and in every row, IS THE sha256 OF THE DUMP (.gsa) THAT YtallemacmgagfaaDoorProg.lean LOADS. Nothing in Lean hashes anything: it is a label: what it is worth is what the hold of that sum in a sandbox is worth. -/
noncomputable def Tryd.pinned : Pinned := { name := "ytallemacmgagfaadoor", sum := "47a2848e3f09b38e55a8b83be0d575145057955eea4cf031c7db68f29ef69661", checked := Tryd.checked }
namespace Rows
def none {H : Type} : Left H := { results := [], args := [] }

/- WHAT THE LISTED PACKAGE-LEVEL VARIABLES READ AS WHEN THE CALL BEGINS. Each datum BY PROGRAM (the guide's laid-datum.mjs) off the statement by which the dump's own 'gosem.cut.vars' lays the variable. In a bare row this is a premise. The card (YtallemacmgagfaaDoorCards.lean) ties it to the program's text. -/
def laid_unicode_utf8_acceptRanges {H : Type} : DataW H := .agg [.agg [.lit (.int .u8 128), .lit (.int .u8 191)], .agg [.lit (.int .u8 160), .lit (.int .u8 191)], .agg [.lit (.int .u8 128), .lit (.int .u8 159)], .agg [.lit (.int .u8 144), .lit (.int .u8 191)], .agg [.lit (.int .u8 128), .lit (.int .u8 143)], .agg [.lit (.int .u8 0), .lit (.int .u8 0)], .agg [.lit (.int .u8 0), .lit (.int .u8 0)], .agg [.lit (.int .u8 0), .lit (.int .u8 0)], .agg [.lit (.int .u8 0), .lit (.int .u8 0)], .agg [.lit (.int .u8 0), .lit (.int .u8 0)], .agg [.lit (.int .u8 0), .lit (.int .u8 0)], .agg [.lit (.int .u8 0), .lit (.int .u8 0)], .agg [.lit (.int .u8 0), .lit (.int .u8 0)], .agg [.lit (.int .u8 0), .lit (.int .u8 0)], .agg [.lit (.int .u8 0), .lit (.int .u8 0)], .agg [.lit (.int .u8 0), .lit (.int .u8 0)]]
/-- One of Go's own tables, pinned by name: the form's constant. -/
def laid_unicode_utf8_first : DataW Unit := Go.Pinned.utf8First

/-- 'withylaw10.Fsms': WHATEVER THE INPUT: true; the input reads as it did. -/
def fsmsSpec : ChangeSpec := { name := "fsms", fn := fun _ => fun
  | [d1, d2] => { results := [.lit (.bool true)], args := [d1, d2] }
  | _ => none }
def fsmsRow : OpenClaim := { program := "ytallemacmgagfaadoor", sum := "47a2848e3f09b38e55a8b83be0d575145057955eea4cf031c7db68f29ef69661", func := "withy/withylaw10.Fsms", spec := "fsms", inPlace := ["internal/bytealg.IndexByteString", "internal/bytealg.IndexString", "internal/bytealg.CountString"], named := ["internal/bytealg.MaxLen", "unicode/utf8.first", "unicode/utf8.acceptRanges"], apart := false, laid := [("unicode/utf8.acceptRanges", laid_unicode_utf8_acceptRanges), ("unicode/utf8.first", laid_unicode_utf8_first)] }
def FsmsSaid : Prop := fsmsRow.holds Tryd.pinned (OpenSpec.ofChange fsmsSpec)

/-- ITS FALSE NEIGHBOUR: 'it returns false'. Refute it at one input. -/
def fsmsWrong : ChangeSpec := { name := "fsms", fn := fun _ => fun
  | [d1, d2] => { results := [.lit (.bool false)], args := [d1, d2] }
  | _ => none }
def FsmsWrongFalsely : Prop := fsmsRow.holds Tryd.pinned (OpenSpec.ofChange fsmsWrong)

/-- 'withylaw10.FsmTable': WHATEVER THE INPUT: true; the input reads as it did. -/
def fsmTableSpec : ChangeSpec := { name := "fsmTable", fn := fun _ => fun
  | [] => { results := [.lit (.bool true)], args := [] }
  | _ => none }
def fsmTableRow : OpenClaim := { program := "ytallemacmgagfaadoor", sum := "47a2848e3f09b38e55a8b83be0d575145057955eea4cf031c7db68f29ef69661", func := "withy/withylaw10.FsmTable", spec := "fsmTable", inPlace := ["internal/bytealg.IndexByteString", "internal/bytealg.IndexString", "internal/bytealg.CountString"], named := ["internal/bytealg.MaxLen", "unicode/utf8.first", "unicode/utf8.acceptRanges"], apart := false, laid := [("unicode/utf8.acceptRanges", laid_unicode_utf8_acceptRanges), ("unicode/utf8.first", laid_unicode_utf8_first)] }
def FsmTableSaid : Prop := fsmTableRow.holds Tryd.pinned (OpenSpec.ofChange fsmTableSpec)

/-- ITS FALSE NEIGHBOUR: 'it returns false'. Refute it at one input. -/
def fsmTableWrong : ChangeSpec := { name := "fsmTable", fn := fun _ => fun
  | [] => { results := [.lit (.bool false)], args := [] }
  | _ => none }
def FsmTableWrongFalsely : Prop := fsmTableRow.holds Tryd.pinned (OpenSpec.ofChange fsmTableWrong)

/-- 'withylaw10.FsmUps': WHATEVER THE INPUT: true; the input reads as it did. -/
def fsmUpsSpec : ChangeSpec := { name := "fsmUps", fn := fun _ => fun
  | [d] => { results := [.lit (.bool true)], args := [d] }
  | _ => none }
def fsmUpsRow : OpenClaim := { program := "ytallemacmgagfaadoor", sum := "47a2848e3f09b38e55a8b83be0d575145057955eea4cf031c7db68f29ef69661", func := "withy/withylaw10.FsmUps", spec := "fsmUps", inPlace := ["internal/bytealg.IndexByteString", "internal/bytealg.IndexString", "internal/bytealg.CountString"], named := ["internal/bytealg.MaxLen", "unicode/utf8.first", "unicode/utf8.acceptRanges"], apart := false, laid := [("unicode/utf8.acceptRanges", laid_unicode_utf8_acceptRanges), ("unicode/utf8.first", laid_unicode_utf8_first)] }
def FsmUpsSaid : Prop := fsmUpsRow.holds Tryd.pinned (OpenSpec.ofChange fsmUpsSpec)

/-- ITS FALSE NEIGHBOUR: 'it returns false'. Refute it at one input. -/
def fsmUpsWrong : ChangeSpec := { name := "fsmUps", fn := fun _ => fun
  | [d] => { results := [.lit (.bool false)], args := [d] }
  | _ => none }
def FsmUpsWrongFalsely : Prop := fsmUpsRow.holds Tryd.pinned (OpenSpec.ofChange fsmUpsWrong)

/-- 'withylaw10.FsmEnds': WHATEVER THE INPUT: true; the input reads as it did. -/
def fsmEndsSpec : ChangeSpec := { name := "fsmEnds", fn := fun _ => fun
  | [d] => { results := [.lit (.bool true)], args := [d] }
  | _ => none }
def fsmEndsRow : OpenClaim := { program := "ytallemacmgagfaadoor", sum := "47a2848e3f09b38e55a8b83be0d575145057955eea4cf031c7db68f29ef69661", func := "withy/withylaw10.FsmEnds", spec := "fsmEnds", inPlace := ["internal/bytealg.IndexByteString", "internal/bytealg.IndexString", "internal/bytealg.CountString"], named := ["internal/bytealg.MaxLen", "unicode/utf8.first", "unicode/utf8.acceptRanges"], apart := false, laid := [("unicode/utf8.acceptRanges", laid_unicode_utf8_acceptRanges), ("unicode/utf8.first", laid_unicode_utf8_first)] }
def FsmEndsSaid : Prop := fsmEndsRow.holds Tryd.pinned (OpenSpec.ofChange fsmEndsSpec)

/-- ITS FALSE NEIGHBOUR: 'it returns false'. Refute it at one input. -/
def fsmEndsWrong : ChangeSpec := { name := "fsmEnds", fn := fun _ => fun
  | [d] => { results := [.lit (.bool false)], args := [d] }
  | _ => none }
def FsmEndsWrongFalsely : Prop := fsmEndsRow.holds Tryd.pinned (OpenSpec.ofChange fsmEndsWrong)

/-- 'withylaw10.FsmDowns': WHATEVER THE INPUT: true; the input reads as it did. -/
def fsmDownsSpec : ChangeSpec := { name := "fsmDowns", fn := fun _ => fun
  | [d1, d2] => { results := [.lit (.bool true)], args := [d1, d2] }
  | _ => none }
def fsmDownsRow : OpenClaim := { program := "ytallemacmgagfaadoor", sum := "47a2848e3f09b38e55a8b83be0d575145057955eea4cf031c7db68f29ef69661", func := "withy/withylaw10.FsmDowns", spec := "fsmDowns", inPlace := ["internal/bytealg.IndexByteString", "internal/bytealg.IndexString", "internal/bytealg.CountString"], named := ["internal/bytealg.MaxLen", "unicode/utf8.first", "unicode/utf8.acceptRanges"], apart := false, laid := [("unicode/utf8.acceptRanges", laid_unicode_utf8_acceptRanges), ("unicode/utf8.first", laid_unicode_utf8_first)] }
def FsmDownsSaid : Prop := fsmDownsRow.holds Tryd.pinned (OpenSpec.ofChange fsmDownsSpec)

/-- ITS FALSE NEIGHBOUR: 'it returns false'. Refute it at one input. -/
def fsmDownsWrong : ChangeSpec := { name := "fsmDowns", fn := fun _ => fun
  | [d1, d2] => { results := [.lit (.bool false)], args := [d1, d2] }
  | _ => none }
def FsmDownsWrongFalsely : Prop := fsmDownsRow.holds Tryd.pinned (OpenSpec.ofChange fsmDownsWrong)

/-- 'withylaw10.FsmAnswers': WHATEVER THE INPUT: true; the input reads as it did. -/
def fsmAnswersSpec : ChangeSpec := { name := "fsmAnswers", fn := fun _ => fun
  | [d1, d2] => { results := [.lit (.bool true)], args := [d1, d2] }
  | _ => none }
def fsmAnswersRow : OpenClaim := { program := "ytallemacmgagfaadoor", sum := "47a2848e3f09b38e55a8b83be0d575145057955eea4cf031c7db68f29ef69661", func := "withy/withylaw10.FsmAnswers", spec := "fsmAnswers", inPlace := ["internal/bytealg.IndexByteString", "internal/bytealg.IndexString", "internal/bytealg.CountString"], named := ["internal/bytealg.MaxLen", "unicode/utf8.first", "unicode/utf8.acceptRanges"], apart := false, laid := [("unicode/utf8.acceptRanges", laid_unicode_utf8_acceptRanges), ("unicode/utf8.first", laid_unicode_utf8_first)] }
def FsmAnswersSaid : Prop := fsmAnswersRow.holds Tryd.pinned (OpenSpec.ofChange fsmAnswersSpec)

/-- ITS FALSE NEIGHBOUR: 'it returns false'. Refute it at one input. -/
def fsmAnswersWrong : ChangeSpec := { name := "fsmAnswers", fn := fun _ => fun
  | [d1, d2] => { results := [.lit (.bool false)], args := [d1, d2] }
  | _ => none }
def FsmAnswersWrongFalsely : Prop := fsmAnswersRow.holds Tryd.pinned (OpenSpec.ofChange fsmAnswersWrong)

/-- 'withylaw10.FsmCounts': WHATEVER THE INPUT: true; the input reads as it did. -/
def fsmCountsSpec : ChangeSpec := { name := "fsmCounts", fn := fun _ => fun
  | [d1, d2] => { results := [.lit (.bool true)], args := [d1, d2] }
  | _ => none }
def fsmCountsRow : OpenClaim := { program := "ytallemacmgagfaadoor", sum := "47a2848e3f09b38e55a8b83be0d575145057955eea4cf031c7db68f29ef69661", func := "withy/withylaw10.FsmCounts", spec := "fsmCounts", inPlace := ["internal/bytealg.IndexByteString", "internal/bytealg.IndexString", "internal/bytealg.CountString"], named := ["internal/bytealg.MaxLen", "unicode/utf8.first", "unicode/utf8.acceptRanges"], apart := false, laid := [("unicode/utf8.acceptRanges", laid_unicode_utf8_acceptRanges), ("unicode/utf8.first", laid_unicode_utf8_first)] }
def FsmCountsSaid : Prop := fsmCountsRow.holds Tryd.pinned (OpenSpec.ofChange fsmCountsSpec)

/-- ITS FALSE NEIGHBOUR: 'it returns false'. Refute it at one input. -/
def fsmCountsWrong : ChangeSpec := { name := "fsmCounts", fn := fun _ => fun
  | [d1, d2] => { results := [.lit (.bool false)], args := [d1, d2] }
  | _ => none }
def FsmCountsWrongFalsely : Prop := fsmCountsRow.holds Tryd.pinned (OpenSpec.ofChange fsmCountsWrong)

/- THE SECOND FORM. 'bulk': how many values and letters a reading holds, each counted each time it is reached (what is shared counts as often as it is met; a slice's spare places count too). A statement '..UptoSaid' is the law's where the arguments, and the package variables that the reading takes, are together of bulk at most 1048576: NARROWER than '..Said'. Prove '..Said' where nothing that the law and all that it calls make is longer than what came in: it says more and counts as full. Else prove '..UptoSaid'. A law counts once. -/
mutual
def uptoBulk {H : Type} : DataW H → Nat
  | .lit (.string bytes) => bytes.length + 1
  | .lit _ => 1
  | .nil => 1
  | .ptr d => uptoBulk d + 1
  | .slice elems spare => uptoBulkAll elems + uptoBulkAll spare + 1
  | .agg parts => uptoBulkAll parts + 1
  | .iface _ d => uptoBulk d + 1
  | .map entries => uptoBulkEntries entries + 1
  | .held _ => 1
def uptoBulkAll {H : Type} : List (DataW H) → Nat
  | [] => 0
  | d :: r => uptoBulk d + uptoBulkAll r
def uptoBulkEntries {H : Type} : List (Lit × DataW H) → Nat
  | [] => 0
  | x :: r => uptoBulkEntry x + uptoBulkEntries r
def uptoBulkEntry {H : Type} : Lit × DataW H → Nat
  | (.string bytes, d) => bytes.length + uptoBulk d + 1
  | (_, d) => uptoBulk d + 1
 end
def uptoSmall : (H : Type) → List (DataW H) → Bool := fun _ ds => decide (uptoBulkAll ds ≤ 1048576)
def OpenSpec.upto (s : _root_.Go.ChangeSpec) : _root_.Go.OpenSpec := { _root_.Go.OpenSpec.ofChange s with cond := some uptoSmall }

/-- 'withylaw10.Fsms', WHERE WHAT IT READS IS OF BULK AT MOST 1048576: true; the input reads as it did. -/
def fsmsUptoRow : OpenClaim := { program := "ytallemacmgagfaadoor", sum := "47a2848e3f09b38e55a8b83be0d575145057955eea4cf031c7db68f29ef69661", func := "withy/withylaw10.Fsms", spec := "fsms", inPlace := ["internal/bytealg.IndexByteString", "internal/bytealg.IndexString", "internal/bytealg.CountString"], named := ["internal/bytealg.MaxLen", "unicode/utf8.first", "unicode/utf8.acceptRanges"], apart := false, laid := [("unicode/utf8.acceptRanges", laid_unicode_utf8_acceptRanges), ("unicode/utf8.first", laid_unicode_utf8_first)], narrowed := true }
def FsmsUptoSaid : Prop := fsmsUptoRow.holds Tryd.pinned (OpenSpec.upto fsmsSpec)

/-- 'withylaw10.FsmTable', WHERE WHAT IT READS IS OF BULK AT MOST 1048576: true; the input reads as it did. -/
def fsmTableUptoRow : OpenClaim := { program := "ytallemacmgagfaadoor", sum := "47a2848e3f09b38e55a8b83be0d575145057955eea4cf031c7db68f29ef69661", func := "withy/withylaw10.FsmTable", spec := "fsmTable", inPlace := ["internal/bytealg.IndexByteString", "internal/bytealg.IndexString", "internal/bytealg.CountString"], named := ["internal/bytealg.MaxLen", "unicode/utf8.first", "unicode/utf8.acceptRanges"], apart := false, laid := [("unicode/utf8.acceptRanges", laid_unicode_utf8_acceptRanges), ("unicode/utf8.first", laid_unicode_utf8_first)], narrowed := true }
def FsmTableUptoSaid : Prop := fsmTableUptoRow.holds Tryd.pinned (OpenSpec.upto fsmTableSpec)

/-- 'withylaw10.FsmUps', WHERE WHAT IT READS IS OF BULK AT MOST 1048576: true; the input reads as it did. -/
def fsmUpsUptoRow : OpenClaim := { program := "ytallemacmgagfaadoor", sum := "47a2848e3f09b38e55a8b83be0d575145057955eea4cf031c7db68f29ef69661", func := "withy/withylaw10.FsmUps", spec := "fsmUps", inPlace := ["internal/bytealg.IndexByteString", "internal/bytealg.IndexString", "internal/bytealg.CountString"], named := ["internal/bytealg.MaxLen", "unicode/utf8.first", "unicode/utf8.acceptRanges"], apart := false, laid := [("unicode/utf8.acceptRanges", laid_unicode_utf8_acceptRanges), ("unicode/utf8.first", laid_unicode_utf8_first)], narrowed := true }
def FsmUpsUptoSaid : Prop := fsmUpsUptoRow.holds Tryd.pinned (OpenSpec.upto fsmUpsSpec)

/-- 'withylaw10.FsmEnds', WHERE WHAT IT READS IS OF BULK AT MOST 1048576: true; the input reads as it did. -/
def fsmEndsUptoRow : OpenClaim := { program := "ytallemacmgagfaadoor", sum := "47a2848e3f09b38e55a8b83be0d575145057955eea4cf031c7db68f29ef69661", func := "withy/withylaw10.FsmEnds", spec := "fsmEnds", inPlace := ["internal/bytealg.IndexByteString", "internal/bytealg.IndexString", "internal/bytealg.CountString"], named := ["internal/bytealg.MaxLen", "unicode/utf8.first", "unicode/utf8.acceptRanges"], apart := false, laid := [("unicode/utf8.acceptRanges", laid_unicode_utf8_acceptRanges), ("unicode/utf8.first", laid_unicode_utf8_first)], narrowed := true }
def FsmEndsUptoSaid : Prop := fsmEndsUptoRow.holds Tryd.pinned (OpenSpec.upto fsmEndsSpec)

/-- 'withylaw10.FsmDowns', WHERE WHAT IT READS IS OF BULK AT MOST 1048576: true; the input reads as it did. -/
def fsmDownsUptoRow : OpenClaim := { program := "ytallemacmgagfaadoor", sum := "47a2848e3f09b38e55a8b83be0d575145057955eea4cf031c7db68f29ef69661", func := "withy/withylaw10.FsmDowns", spec := "fsmDowns", inPlace := ["internal/bytealg.IndexByteString", "internal/bytealg.IndexString", "internal/bytealg.CountString"], named := ["internal/bytealg.MaxLen", "unicode/utf8.first", "unicode/utf8.acceptRanges"], apart := false, laid := [("unicode/utf8.acceptRanges", laid_unicode_utf8_acceptRanges), ("unicode/utf8.first", laid_unicode_utf8_first)], narrowed := true }
def FsmDownsUptoSaid : Prop := fsmDownsUptoRow.holds Tryd.pinned (OpenSpec.upto fsmDownsSpec)

/-- 'withylaw10.FsmAnswers', WHERE WHAT IT READS IS OF BULK AT MOST 1048576: true; the input reads as it did. -/
def fsmAnswersUptoRow : OpenClaim := { program := "ytallemacmgagfaadoor", sum := "47a2848e3f09b38e55a8b83be0d575145057955eea4cf031c7db68f29ef69661", func := "withy/withylaw10.FsmAnswers", spec := "fsmAnswers", inPlace := ["internal/bytealg.IndexByteString", "internal/bytealg.IndexString", "internal/bytealg.CountString"], named := ["internal/bytealg.MaxLen", "unicode/utf8.first", "unicode/utf8.acceptRanges"], apart := false, laid := [("unicode/utf8.acceptRanges", laid_unicode_utf8_acceptRanges), ("unicode/utf8.first", laid_unicode_utf8_first)], narrowed := true }
def FsmAnswersUptoSaid : Prop := fsmAnswersUptoRow.holds Tryd.pinned (OpenSpec.upto fsmAnswersSpec)

/-- 'withylaw10.FsmCounts', WHERE WHAT IT READS IS OF BULK AT MOST 1048576: true; the input reads as it did. -/
def fsmCountsUptoRow : OpenClaim := { program := "ytallemacmgagfaadoor", sum := "47a2848e3f09b38e55a8b83be0d575145057955eea4cf031c7db68f29ef69661", func := "withy/withylaw10.FsmCounts", spec := "fsmCounts", inPlace := ["internal/bytealg.IndexByteString", "internal/bytealg.IndexString", "internal/bytealg.CountString"], named := ["internal/bytealg.MaxLen", "unicode/utf8.first", "unicode/utf8.acceptRanges"], apart := false, laid := [("unicode/utf8.acceptRanges", laid_unicode_utf8_acceptRanges), ("unicode/utf8.first", laid_unicode_utf8_first)], narrowed := true }
def FsmCountsUptoSaid : Prop := fsmCountsUptoRow.holds Tryd.pinned (OpenSpec.upto fsmCountsSpec)

end Rows
end Go.Proofs.YtallemacmgagfaaDoor
