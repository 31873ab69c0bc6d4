/-
  NARROWER THAN 'FOR EVERY INPUT', by the rows' own cells (each row's printed sentence says how): PairHolds: laid · PairTimes: laid · PairOnce: laid · PairForms: laid · PairGrows: laid · PairSteps: laid · PairErrors: laid · PairRandom: laid · PairScripts: laid · PairSettles: laid · PairMagics: laid.
  DERIVED. THE GIVEN ROWS OF THIS SEAT. 11 by the template 'for every input the law returns true; each argument reads behind the call as it read before'; 0 by the template 'total and deterministic' (their statements: YtncddkcponjlpaaGreatDoorTotals.lean).
  GIVEN WITH THE SEED: the statements are not yours to turn. If you find one false, say at which input.
  Laid BY PROGRAM, IN A SANDBOX (cutbox-rows.mjs): the forced cells as the released guide's own fill.sh prints them over the translation b2b95e177dbf43c7… (all of the seat's roots in one cut). By AI agents, Wed Nov 11 2026. No macro, syntax, notation, axiom, sorry.
-/
import Derived.Test.YtncddkcponjlpaaGreatDoorChecked
import GoSem.PinnedTables
import GoSem.Claim
import GoSem.ClaimJoined
import GoSem.ClaimMapViews
import Derived.JoinedTies
import Derived.KernelRfl
namespace Go.Proofs.YtncddkcponjlpaaGreatDoor
/- THE CELL 'sum', in the pinned program and in every row, IS THE sha256 OF THE DUMP (.gsa) THAT YtncddkcponjlpaaGreatDoorProg.lean LOADS. Nothing in Lean hashes anything: it is a label: what it is worth is what the hold of that sum in a sandbox is worth. -/
noncomputable def Tryz.pinned : Pinned := { name := "ytncddkcponjlpaagreatdoor", sum := "b2b95e177dbf43c77893b35ebf54e4c7dc5d2f0b8bca985b84412e6ffaab39af", checked := Tryz.checked }
namespace Rows
def none {H : Type} : Left H := { results := [], args := [] }

/- WHAT THE LISTED PACKAGE-LEVEL VARIABLES READ AS WHEN THE CALL BEGINS. Each datum BY PROGRAM (the guide's laid-datum.mjs) off the statement by which the dump's own 'gosem.cut.vars' lays the variable. In a bare row this is a premise. The card (YtncddkcponjlpaaGreatDoorCards.lean) ties it to the program's text. -/
def laid_unicode_utf8_acceptRanges {H : Type} : DataW H := .agg [.agg [.lit (.int .u8 128), .lit (.int .u8 191)], .agg [.lit (.int .u8 160), .lit (.int .u8 191)], .agg [.lit (.int .u8 128), .lit (.int .u8 159)], .agg [.lit (.int .u8 144), .lit (.int .u8 191)], .agg [.lit (.int .u8 128), .lit (.int .u8 143)], .agg [.lit (.int .u8 0), .lit (.int .u8 0)], .agg [.lit (.int .u8 0), .lit (.int .u8 0)], .agg [.lit (.int .u8 0), .lit (.int .u8 0)], .agg [.lit (.int .u8 0), .lit (.int .u8 0)], .agg [.lit (.int .u8 0), .lit (.int .u8 0)], .agg [.lit (.int .u8 0), .lit (.int .u8 0)], .agg [.lit (.int .u8 0), .lit (.int .u8 0)], .agg [.lit (.int .u8 0), .lit (.int .u8 0)], .agg [.lit (.int .u8 0), .lit (.int .u8 0)], .agg [.lit (.int .u8 0), .lit (.int .u8 0)], .agg [.lit (.int .u8 0), .lit (.int .u8 0)]]
/-- One of Go's own tables, pinned by name: the form's constant. -/
def laid_unicode_utf8_first : DataW Unit := Go.Pinned.utf8First

/-- 'withylaw27.PairHolds': WHATEVER THE INPUT: true; the input reads as it did. -/
def pairHoldsSpec : ChangeSpec := { name := "pairHolds", fn := fun _ => fun
  | [d1, d2] => { results := [.lit (.bool true)], args := [d1, d2] }
  | _ => none }
def pairHoldsRow : OpenClaim := { program := "ytncddkcponjlpaagreatdoor", sum := "b2b95e177dbf43c77893b35ebf54e4c7dc5d2f0b8bca985b84412e6ffaab39af", func := "withy/withylaw27.PairHolds", spec := "pairHolds", inPlace := ["internal/bytealg.IndexByteString", "internal/bytealg.IndexString", "internal/bytealg.CountString", "internal/abi.NoEscape"], unfollowed := true, recurses := true, named := ["internal/bytealg.MaxLen", "unicode/utf8.first", "unicode/utf8.acceptRanges"], apart := false, laid := [("unicode/utf8.acceptRanges", laid_unicode_utf8_acceptRanges), ("unicode/utf8.first", laid_unicode_utf8_first)] }
def PairHoldsSaid : Prop := pairHoldsRow.holds Tryz.pinned (OpenSpec.ofChange pairHoldsSpec)

/-- ITS FALSE NEIGHBOUR: 'it returns false'. Refute it at one input. -/
def pairHoldsWrong : ChangeSpec := { name := "pairHolds", fn := fun _ => fun
  | [d1, d2] => { results := [.lit (.bool false)], args := [d1, d2] }
  | _ => none }
def PairHoldsWrongFalsely : Prop := pairHoldsRow.holds Tryz.pinned (OpenSpec.ofChange pairHoldsWrong)

/-- 'withylaw27.PairTimes': WHATEVER THE INPUT: true; the input reads as it did. -/
def pairTimesSpec : ChangeSpec := { name := "pairTimes", fn := fun _ => fun
  | [d1, d2] => { results := [.lit (.bool true)], args := [d1, d2] }
  | _ => none }
def pairTimesRow : OpenClaim := { program := "ytncddkcponjlpaagreatdoor", sum := "b2b95e177dbf43c77893b35ebf54e4c7dc5d2f0b8bca985b84412e6ffaab39af", func := "withy/withylaw27.PairTimes", spec := "pairTimes", inPlace := ["internal/bytealg.IndexByteString", "internal/bytealg.IndexString", "internal/bytealg.CountString", "internal/abi.NoEscape"], unfollowed := true, recurses := true, named := ["internal/bytealg.MaxLen", "unicode/utf8.first", "unicode/utf8.acceptRanges"], apart := false, laid := [("unicode/utf8.acceptRanges", laid_unicode_utf8_acceptRanges), ("unicode/utf8.first", laid_unicode_utf8_first)] }
def PairTimesSaid : Prop := pairTimesRow.holds Tryz.pinned (OpenSpec.ofChange pairTimesSpec)

/-- ITS FALSE NEIGHBOUR: 'it returns false'. Refute it at one input. -/
def pairTimesWrong : ChangeSpec := { name := "pairTimes", fn := fun _ => fun
  | [d1, d2] => { results := [.lit (.bool false)], args := [d1, d2] }
  | _ => none }
def PairTimesWrongFalsely : Prop := pairTimesRow.holds Tryz.pinned (OpenSpec.ofChange pairTimesWrong)

/-- 'withylaw27.PairOnce': WHATEVER THE INPUT: true; the input reads as it did. -/
def pairOnceSpec : ChangeSpec := { name := "pairOnce", fn := fun _ => fun
  | [d1, d2] => { results := [.lit (.bool true)], args := [d1, d2] }
  | _ => none }
def pairOnceRow : OpenClaim := { program := "ytncddkcponjlpaagreatdoor", sum := "b2b95e177dbf43c77893b35ebf54e4c7dc5d2f0b8bca985b84412e6ffaab39af", func := "withy/withylaw27.PairOnce", spec := "pairOnce", inPlace := ["internal/bytealg.IndexByteString", "internal/bytealg.IndexString", "internal/bytealg.CountString", "internal/abi.NoEscape"], unfollowed := true, recurses := true, named := ["internal/bytealg.MaxLen", "unicode/utf8.first", "unicode/utf8.acceptRanges"], apart := false, laid := [("unicode/utf8.acceptRanges", laid_unicode_utf8_acceptRanges), ("unicode/utf8.first", laid_unicode_utf8_first)] }
def PairOnceSaid : Prop := pairOnceRow.holds Tryz.pinned (OpenSpec.ofChange pairOnceSpec)

/-- ITS FALSE NEIGHBOUR: 'it returns false'. Refute it at one input. -/
def pairOnceWrong : ChangeSpec := { name := "pairOnce", fn := fun _ => fun
  | [d1, d2] => { results := [.lit (.bool false)], args := [d1, d2] }
  | _ => none }
def PairOnceWrongFalsely : Prop := pairOnceRow.holds Tryz.pinned (OpenSpec.ofChange pairOnceWrong)

/-- 'withylaw27.PairForms': WHATEVER THE INPUT: true; the input reads as it did. -/
def pairFormsSpec : ChangeSpec := { name := "pairForms", fn := fun _ => fun
  | [d] => { results := [.lit (.bool true)], args := [d] }
  | _ => none }
def pairFormsRow : OpenClaim := { program := "ytncddkcponjlpaagreatdoor", sum := "b2b95e177dbf43c77893b35ebf54e4c7dc5d2f0b8bca985b84412e6ffaab39af", func := "withy/withylaw27.PairForms", spec := "pairForms", inPlace := ["internal/bytealg.IndexByteString", "internal/bytealg.IndexString", "internal/bytealg.CountString", "internal/abi.NoEscape"], unfollowed := true, recurses := true, named := ["internal/bytealg.MaxLen", "unicode/utf8.first", "unicode/utf8.acceptRanges"], apart := false, laid := [("unicode/utf8.acceptRanges", laid_unicode_utf8_acceptRanges), ("unicode/utf8.first", laid_unicode_utf8_first)] }
def PairFormsSaid : Prop := pairFormsRow.holds Tryz.pinned (OpenSpec.ofChange pairFormsSpec)

/-- ITS FALSE NEIGHBOUR: 'it returns false'. Refute it at one input. -/
def pairFormsWrong : ChangeSpec := { name := "pairForms", fn := fun _ => fun
  | [d] => { results := [.lit (.bool false)], args := [d] }
  | _ => none }
def PairFormsWrongFalsely : Prop := pairFormsRow.holds Tryz.pinned (OpenSpec.ofChange pairFormsWrong)

/-- 'withylaw27.PairGrows': WHATEVER THE INPUT: true; the input reads as it did. -/
def pairGrowsSpec : ChangeSpec := { name := "pairGrows", fn := fun _ => fun
  | [d1, d2] => { results := [.lit (.bool true)], args := [d1, d2] }
  | _ => none }
def pairGrowsRow : OpenClaim := { program := "ytncddkcponjlpaagreatdoor", sum := "b2b95e177dbf43c77893b35ebf54e4c7dc5d2f0b8bca985b84412e6ffaab39af", func := "withy/withylaw27.PairGrows", spec := "pairGrows", inPlace := ["internal/bytealg.IndexByteString", "internal/bytealg.IndexString", "internal/bytealg.CountString", "internal/abi.NoEscape"], unfollowed := true, recurses := true, named := ["internal/bytealg.MaxLen", "unicode/utf8.first", "unicode/utf8.acceptRanges"], apart := false, laid := [("unicode/utf8.acceptRanges", laid_unicode_utf8_acceptRanges), ("unicode/utf8.first", laid_unicode_utf8_first)] }
def PairGrowsSaid : Prop := pairGrowsRow.holds Tryz.pinned (OpenSpec.ofChange pairGrowsSpec)

/-- ITS FALSE NEIGHBOUR: 'it returns false'. Refute it at one input. -/
def pairGrowsWrong : ChangeSpec := { name := "pairGrows", fn := fun _ => fun
  | [d1, d2] => { results := [.lit (.bool false)], args := [d1, d2] }
  | _ => none }
def PairGrowsWrongFalsely : Prop := pairGrowsRow.holds Tryz.pinned (OpenSpec.ofChange pairGrowsWrong)

/-- 'withylaw27.PairSteps': WHATEVER THE INPUT: true; the input reads as it did. -/
def pairStepsSpec : ChangeSpec := { name := "pairSteps", fn := fun _ => fun
  | [d1, d2] => { results := [.lit (.bool true)], args := [d1, d2] }
  | _ => none }
def pairStepsRow : OpenClaim := { program := "ytncddkcponjlpaagreatdoor", sum := "b2b95e177dbf43c77893b35ebf54e4c7dc5d2f0b8bca985b84412e6ffaab39af", func := "withy/withylaw27.PairSteps", spec := "pairSteps", inPlace := ["internal/bytealg.IndexByteString", "internal/bytealg.IndexString", "internal/bytealg.CountString", "internal/abi.NoEscape"], unfollowed := true, recurses := true, named := ["internal/bytealg.MaxLen", "unicode/utf8.first", "unicode/utf8.acceptRanges"], apart := false, laid := [("unicode/utf8.acceptRanges", laid_unicode_utf8_acceptRanges), ("unicode/utf8.first", laid_unicode_utf8_first)] }
def PairStepsSaid : Prop := pairStepsRow.holds Tryz.pinned (OpenSpec.ofChange pairStepsSpec)

/-- ITS FALSE NEIGHBOUR: 'it returns false'. Refute it at one input. -/
def pairStepsWrong : ChangeSpec := { name := "pairSteps", fn := fun _ => fun
  | [d1, d2] => { results := [.lit (.bool false)], args := [d1, d2] }
  | _ => none }
def PairStepsWrongFalsely : Prop := pairStepsRow.holds Tryz.pinned (OpenSpec.ofChange pairStepsWrong)

/-- 'withylaw27.PairErrors': WHATEVER THE INPUT: true; the input reads as it did. -/
def pairErrorsSpec : ChangeSpec := { name := "pairErrors", fn := fun _ => fun
  | [d1, d2] => { results := [.lit (.bool true)], args := [d1, d2] }
  | _ => none }
def pairErrorsRow : OpenClaim := { program := "ytncddkcponjlpaagreatdoor", sum := "b2b95e177dbf43c77893b35ebf54e4c7dc5d2f0b8bca985b84412e6ffaab39af", func := "withy/withylaw27.PairErrors", spec := "pairErrors", inPlace := ["internal/bytealg.IndexByteString", "internal/bytealg.IndexString", "internal/bytealg.CountString", "internal/abi.NoEscape"], unfollowed := true, recurses := true, named := ["internal/bytealg.MaxLen", "unicode/utf8.first", "unicode/utf8.acceptRanges"], apart := false, laid := [("unicode/utf8.acceptRanges", laid_unicode_utf8_acceptRanges), ("unicode/utf8.first", laid_unicode_utf8_first)] }
def PairErrorsSaid : Prop := pairErrorsRow.holds Tryz.pinned (OpenSpec.ofChange pairErrorsSpec)

/-- ITS FALSE NEIGHBOUR: 'it returns false'. Refute it at one input. -/
def pairErrorsWrong : ChangeSpec := { name := "pairErrors", fn := fun _ => fun
  | [d1, d2] => { results := [.lit (.bool false)], args := [d1, d2] }
  | _ => none }
def PairErrorsWrongFalsely : Prop := pairErrorsRow.holds Tryz.pinned (OpenSpec.ofChange pairErrorsWrong)

/-- 'withylaw27.PairRandom': WHATEVER THE INPUT: true; the input reads as it did. -/
def pairRandomSpec : ChangeSpec := { name := "pairRandom", fn := fun _ => fun
  | [d1, d2] => { results := [.lit (.bool true)], args := [d1, d2] }
  | _ => none }
def pairRandomRow : OpenClaim := { program := "ytncddkcponjlpaagreatdoor", sum := "b2b95e177dbf43c77893b35ebf54e4c7dc5d2f0b8bca985b84412e6ffaab39af", func := "withy/withylaw27.PairRandom", spec := "pairRandom", inPlace := ["internal/bytealg.IndexByteString", "internal/bytealg.IndexString", "internal/bytealg.CountString", "internal/abi.NoEscape"], unfollowed := true, recurses := true, named := ["internal/bytealg.MaxLen", "unicode/utf8.first", "unicode/utf8.acceptRanges"], apart := false, laid := [("unicode/utf8.acceptRanges", laid_unicode_utf8_acceptRanges), ("unicode/utf8.first", laid_unicode_utf8_first)] }
def PairRandomSaid : Prop := pairRandomRow.holds Tryz.pinned (OpenSpec.ofChange pairRandomSpec)

/-- ITS FALSE NEIGHBOUR: 'it returns false'. Refute it at one input. -/
def pairRandomWrong : ChangeSpec := { name := "pairRandom", fn := fun _ => fun
  | [d1, d2] => { results := [.lit (.bool false)], args := [d1, d2] }
  | _ => none }
def PairRandomWrongFalsely : Prop := pairRandomRow.holds Tryz.pinned (OpenSpec.ofChange pairRandomWrong)

/-- 'withylaw27.PairScripts': WHATEVER THE INPUT: true; the input reads as it did. -/
def pairScriptsSpec : ChangeSpec := { name := "pairScripts", fn := fun _ => fun
  | [d1, d2] => { results := [.lit (.bool true)], args := [d1, d2] }
  | _ => none }
def pairScriptsRow : OpenClaim := { program := "ytncddkcponjlpaagreatdoor", sum := "b2b95e177dbf43c77893b35ebf54e4c7dc5d2f0b8bca985b84412e6ffaab39af", func := "withy/withylaw27.PairScripts", spec := "pairScripts", inPlace := ["internal/bytealg.IndexByteString", "internal/bytealg.IndexString", "internal/bytealg.CountString", "internal/abi.NoEscape"], unfollowed := true, recurses := true, named := ["internal/bytealg.MaxLen", "unicode/utf8.first", "unicode/utf8.acceptRanges"], apart := false, laid := [("unicode/utf8.acceptRanges", laid_unicode_utf8_acceptRanges), ("unicode/utf8.first", laid_unicode_utf8_first)] }
def PairScriptsSaid : Prop := pairScriptsRow.holds Tryz.pinned (OpenSpec.ofChange pairScriptsSpec)

/-- ITS FALSE NEIGHBOUR: 'it returns false'. Refute it at one input. -/
def pairScriptsWrong : ChangeSpec := { name := "pairScripts", fn := fun _ => fun
  | [d1, d2] => { results := [.lit (.bool false)], args := [d1, d2] }
  | _ => none }
def PairScriptsWrongFalsely : Prop := pairScriptsRow.holds Tryz.pinned (OpenSpec.ofChange pairScriptsWrong)

/-- 'withylaw27.PairSettles': WHATEVER THE INPUT: true; the input reads as it did. -/
def pairSettlesSpec : ChangeSpec := { name := "pairSettles", fn := fun _ => fun
  | [d1, d2, d3] => { results := [.lit (.bool true)], args := [d1, d2, d3] }
  | _ => none }
def pairSettlesRow : OpenClaim := { program := "ytncddkcponjlpaagreatdoor", sum := "b2b95e177dbf43c77893b35ebf54e4c7dc5d2f0b8bca985b84412e6ffaab39af", func := "withy/withylaw27.PairSettles", spec := "pairSettles", inPlace := ["internal/bytealg.IndexByteString", "internal/bytealg.IndexString", "internal/bytealg.CountString", "internal/abi.NoEscape"], unfollowed := true, recurses := true, named := ["internal/bytealg.MaxLen", "unicode/utf8.first", "unicode/utf8.acceptRanges"], apart := false, laid := [("unicode/utf8.acceptRanges", laid_unicode_utf8_acceptRanges), ("unicode/utf8.first", laid_unicode_utf8_first)] }
def PairSettlesSaid : Prop := pairSettlesRow.holds Tryz.pinned (OpenSpec.ofChange pairSettlesSpec)

/-- ITS FALSE NEIGHBOUR: 'it returns false'. Refute it at one input. -/
def pairSettlesWrong : ChangeSpec := { name := "pairSettles", fn := fun _ => fun
  | [d1, d2, d3] => { results := [.lit (.bool false)], args := [d1, d2, d3] }
  | _ => none }
def PairSettlesWrongFalsely : Prop := pairSettlesRow.holds Tryz.pinned (OpenSpec.ofChange pairSettlesWrong)

/-- 'withylaw27.PairMagics': WHATEVER THE INPUT: true; the input reads as it did. -/
def pairMagicsSpec : ChangeSpec := { name := "pairMagics", fn := fun _ => fun
  | [d1, d2, d3] => { results := [.lit (.bool true)], args := [d1, d2, d3] }
  | _ => none }
def pairMagicsRow : OpenClaim := { program := "ytncddkcponjlpaagreatdoor", sum := "b2b95e177dbf43c77893b35ebf54e4c7dc5d2f0b8bca985b84412e6ffaab39af", func := "withy/withylaw27.PairMagics", spec := "pairMagics", inPlace := ["internal/bytealg.IndexByteString", "internal/bytealg.IndexString", "internal/bytealg.CountString", "internal/abi.NoEscape"], unfollowed := true, recurses := true, named := ["internal/bytealg.MaxLen", "unicode/utf8.first", "unicode/utf8.acceptRanges"], apart := false, laid := [("unicode/utf8.acceptRanges", laid_unicode_utf8_acceptRanges), ("unicode/utf8.first", laid_unicode_utf8_first)] }
def PairMagicsSaid : Prop := pairMagicsRow.holds Tryz.pinned (OpenSpec.ofChange pairMagicsSpec)

/-- ITS FALSE NEIGHBOUR: 'it returns false'. Refute it at one input. -/
def pairMagicsWrong : ChangeSpec := { name := "pairMagics", fn := fun _ => fun
  | [d1, d2, d3] => { results := [.lit (.bool false)], args := [d1, d2, d3] }
  | _ => none }
def PairMagicsWrongFalsely : Prop := pairMagicsRow.holds Tryz.pinned (OpenSpec.ofChange pairMagicsWrong)

/- THE SECOND FORM. 'bulk': how many values and letters a reading holds, each counted each time it is reached (what is shared counts as often as it is met; a slice's spare places count too). A statement '..UptoSaid' is the law's where the arguments, and the package variables that the reading takes, are together of bulk at most 1048576: NARROWER than '..Said'. Prove '..Said' where nothing that the law and all that it calls make is longer than what came in: it says more and counts as full. Else prove '..UptoSaid'. A law counts once. -/
mutual
def uptoBulk {H : Type} : DataW H → Nat
  | .lit (.string bytes) => bytes.length + 1
  | .lit _ => 1
  | .nil => 1
  | .ptr d => uptoBulk d + 1
  | .slice elems spare => uptoBulkAll elems + uptoBulkAll spare + 1
  | .agg parts => uptoBulkAll parts + 1
  | .iface _ d => uptoBulk d + 1
  | .map entries => uptoBulkEntries entries + 1
  | .held _ => 1
def uptoBulkAll {H : Type} : List (DataW H) → Nat
  | [] => 0
  | d :: r => uptoBulk d + uptoBulkAll r
def uptoBulkEntries {H : Type} : List (Lit × DataW H) → Nat
  | [] => 0
  | x :: r => uptoBulkEntry x + uptoBulkEntries r
def uptoBulkEntry {H : Type} : Lit × DataW H → Nat
  | (.string bytes, d) => bytes.length + uptoBulk d + 1
  | (_, d) => uptoBulk d + 1
 end
def uptoSmall : (H : Type) → List (DataW H) → Bool := fun _ ds => decide (uptoBulkAll ds ≤ 1048576)
def OpenSpec.upto (s : _root_.Go.ChangeSpec) : _root_.Go.OpenSpec := { _root_.Go.OpenSpec.ofChange s with cond := some uptoSmall }

/-- 'withylaw27.PairHolds', WHERE WHAT IT READS IS OF BULK AT MOST 1048576: true; the input reads as it did. -/
def pairHoldsUptoRow : OpenClaim := { program := "ytncddkcponjlpaagreatdoor", sum := "b2b95e177dbf43c77893b35ebf54e4c7dc5d2f0b8bca985b84412e6ffaab39af", func := "withy/withylaw27.PairHolds", spec := "pairHolds", inPlace := ["internal/bytealg.IndexByteString", "internal/bytealg.IndexString", "internal/bytealg.CountString", "internal/abi.NoEscape"], unfollowed := true, recurses := true, named := ["internal/bytealg.MaxLen", "unicode/utf8.first", "unicode/utf8.acceptRanges"], apart := false, laid := [("unicode/utf8.acceptRanges", laid_unicode_utf8_acceptRanges), ("unicode/utf8.first", laid_unicode_utf8_first)], narrowed := true }
def PairHoldsUptoSaid : Prop := pairHoldsUptoRow.holds Tryz.pinned (OpenSpec.upto pairHoldsSpec)

/-- 'withylaw27.PairTimes', WHERE WHAT IT READS IS OF BULK AT MOST 1048576: true; the input reads as it did. -/
def pairTimesUptoRow : OpenClaim := { program := "ytncddkcponjlpaagreatdoor", sum := "b2b95e177dbf43c77893b35ebf54e4c7dc5d2f0b8bca985b84412e6ffaab39af", func := "withy/withylaw27.PairTimes", spec := "pairTimes", inPlace := ["internal/bytealg.IndexByteString", "internal/bytealg.IndexString", "internal/bytealg.CountString", "internal/abi.NoEscape"], unfollowed := true, recurses := true, named := ["internal/bytealg.MaxLen", "unicode/utf8.first", "unicode/utf8.acceptRanges"], apart := false, laid := [("unicode/utf8.acceptRanges", laid_unicode_utf8_acceptRanges), ("unicode/utf8.first", laid_unicode_utf8_first)], narrowed := true }
def PairTimesUptoSaid : Prop := pairTimesUptoRow.holds Tryz.pinned (OpenSpec.upto pairTimesSpec)

/-- 'withylaw27.PairOnce', WHERE WHAT IT READS IS OF BULK AT MOST 1048576: true; the input reads as it did. -/
def pairOnceUptoRow : OpenClaim := { program := "ytncddkcponjlpaagreatdoor", sum := "b2b95e177dbf43c77893b35ebf54e4c7dc5d2f0b8bca985b84412e6ffaab39af", func := "withy/withylaw27.PairOnce", spec := "pairOnce", inPlace := ["internal/bytealg.IndexByteString", "internal/bytealg.IndexString", "internal/bytealg.CountString", "internal/abi.NoEscape"], unfollowed := true, recurses := true, named := ["internal/bytealg.MaxLen", "unicode/utf8.first", "unicode/utf8.acceptRanges"], apart := false, laid := [("unicode/utf8.acceptRanges", laid_unicode_utf8_acceptRanges), ("unicode/utf8.first", laid_unicode_utf8_first)], narrowed := true }
def PairOnceUptoSaid : Prop := pairOnceUptoRow.holds Tryz.pinned (OpenSpec.upto pairOnceSpec)

/-- 'withylaw27.PairForms', WHERE WHAT IT READS IS OF BULK AT MOST 1048576: true; the input reads as it did. -/
def pairFormsUptoRow : OpenClaim := { program := "ytncddkcponjlpaagreatdoor", sum := "b2b95e177dbf43c77893b35ebf54e4c7dc5d2f0b8bca985b84412e6ffaab39af", func := "withy/withylaw27.PairForms", spec := "pairForms", inPlace := ["internal/bytealg.IndexByteString", "internal/bytealg.IndexString", "internal/bytealg.CountString", "internal/abi.NoEscape"], unfollowed := true, recurses := true, named := ["internal/bytealg.MaxLen", "unicode/utf8.first", "unicode/utf8.acceptRanges"], apart := false, laid := [("unicode/utf8.acceptRanges", laid_unicode_utf8_acceptRanges), ("unicode/utf8.first", laid_unicode_utf8_first)], narrowed := true }
def PairFormsUptoSaid : Prop := pairFormsUptoRow.holds Tryz.pinned (OpenSpec.upto pairFormsSpec)

/-- 'withylaw27.PairGrows', WHERE WHAT IT READS IS OF BULK AT MOST 1048576: true; the input reads as it did. -/
def pairGrowsUptoRow : OpenClaim := { program := "ytncddkcponjlpaagreatdoor", sum := "b2b95e177dbf43c77893b35ebf54e4c7dc5d2f0b8bca985b84412e6ffaab39af", func := "withy/withylaw27.PairGrows", spec := "pairGrows", inPlace := ["internal/bytealg.IndexByteString", "internal/bytealg.IndexString", "internal/bytealg.CountString", "internal/abi.NoEscape"], unfollowed := true, recurses := true, named := ["internal/bytealg.MaxLen", "unicode/utf8.first", "unicode/utf8.acceptRanges"], apart := false, laid := [("unicode/utf8.acceptRanges", laid_unicode_utf8_acceptRanges), ("unicode/utf8.first", laid_unicode_utf8_first)], narrowed := true }
def PairGrowsUptoSaid : Prop := pairGrowsUptoRow.holds Tryz.pinned (OpenSpec.upto pairGrowsSpec)

/-- 'withylaw27.PairSteps', WHERE WHAT IT READS IS OF BULK AT MOST 1048576: true; the input reads as it did. -/
def pairStepsUptoRow : OpenClaim := { program := "ytncddkcponjlpaagreatdoor", sum := "b2b95e177dbf43c77893b35ebf54e4c7dc5d2f0b8bca985b84412e6ffaab39af", func := "withy/withylaw27.PairSteps", spec := "pairSteps", inPlace := ["internal/bytealg.IndexByteString", "internal/bytealg.IndexString", "internal/bytealg.CountString", "internal/abi.NoEscape"], unfollowed := true, recurses := true, named := ["internal/bytealg.MaxLen", "unicode/utf8.first", "unicode/utf8.acceptRanges"], apart := false, laid := [("unicode/utf8.acceptRanges", laid_unicode_utf8_acceptRanges), ("unicode/utf8.first", laid_unicode_utf8_first)], narrowed := true }
def PairStepsUptoSaid : Prop := pairStepsUptoRow.holds Tryz.pinned (OpenSpec.upto pairStepsSpec)

/-- 'withylaw27.PairErrors', WHERE WHAT IT READS IS OF BULK AT MOST 1048576: true; the input reads as it did. -/
def pairErrorsUptoRow : OpenClaim := { program := "ytncddkcponjlpaagreatdoor", sum := "b2b95e177dbf43c77893b35ebf54e4c7dc5d2f0b8bca985b84412e6ffaab39af", func := "withy/withylaw27.PairErrors", spec := "pairErrors", inPlace := ["internal/bytealg.IndexByteString", "internal/bytealg.IndexString", "internal/bytealg.CountString", "internal/abi.NoEscape"], unfollowed := true, recurses := true, named := ["internal/bytealg.MaxLen", "unicode/utf8.first", "unicode/utf8.acceptRanges"], apart := false, laid := [("unicode/utf8.acceptRanges", laid_unicode_utf8_acceptRanges), ("unicode/utf8.first", laid_unicode_utf8_first)], narrowed := true }
def PairErrorsUptoSaid : Prop := pairErrorsUptoRow.holds Tryz.pinned (OpenSpec.upto pairErrorsSpec)

/-- 'withylaw27.PairRandom', WHERE WHAT IT READS IS OF BULK AT MOST 1048576: true; the input reads as it did. -/
def pairRandomUptoRow : OpenClaim := { program := "ytncddkcponjlpaagreatdoor", sum := "b2b95e177dbf43c77893b35ebf54e4c7dc5d2f0b8bca985b84412e6ffaab39af", func := "withy/withylaw27.PairRandom", spec := "pairRandom", inPlace := ["internal/bytealg.IndexByteString", "internal/bytealg.IndexString", "internal/bytealg.CountString", "internal/abi.NoEscape"], unfollowed := true, recurses := true, named := ["internal/bytealg.MaxLen", "unicode/utf8.first", "unicode/utf8.acceptRanges"], apart := false, laid := [("unicode/utf8.acceptRanges", laid_unicode_utf8_acceptRanges), ("unicode/utf8.first", laid_unicode_utf8_first)], narrowed := true }
def PairRandomUptoSaid : Prop := pairRandomUptoRow.holds Tryz.pinned (OpenSpec.upto pairRandomSpec)

/-- 'withylaw27.PairScripts', WHERE WHAT IT READS IS OF BULK AT MOST 1048576: true; the input reads as it did. -/
def pairScriptsUptoRow : OpenClaim := { program := "ytncddkcponjlpaagreatdoor", sum := "b2b95e177dbf43c77893b35ebf54e4c7dc5d2f0b8bca985b84412e6ffaab39af", func := "withy/withylaw27.PairScripts", spec := "pairScripts", inPlace := ["internal/bytealg.IndexByteString", "internal/bytealg.IndexString", "internal/bytealg.CountString", "internal/abi.NoEscape"], unfollowed := true, recurses := true, named := ["internal/bytealg.MaxLen", "unicode/utf8.first", "unicode/utf8.acceptRanges"], apart := false, laid := [("unicode/utf8.acceptRanges", laid_unicode_utf8_acceptRanges), ("unicode/utf8.first", laid_unicode_utf8_first)], narrowed := true }
def PairScriptsUptoSaid : Prop := pairScriptsUptoRow.holds Tryz.pinned (OpenSpec.upto pairScriptsSpec)

/-- 'withylaw27.PairSettles', WHERE WHAT IT READS IS OF BULK AT MOST 1048576: true; the input reads as it did. -/
def pairSettlesUptoRow : OpenClaim := { program := "ytncddkcponjlpaagreatdoor", sum := "b2b95e177dbf43c77893b35ebf54e4c7dc5d2f0b8bca985b84412e6ffaab39af", func := "withy/withylaw27.PairSettles", spec := "pairSettles", inPlace := ["internal/bytealg.IndexByteString", "internal/bytealg.IndexString", "internal/bytealg.CountString", "internal/abi.NoEscape"], unfollowed := true, recurses := true, named := ["internal/bytealg.MaxLen", "unicode/utf8.first", "unicode/utf8.acceptRanges"], apart := false, laid := [("unicode/utf8.acceptRanges", laid_unicode_utf8_acceptRanges), ("unicode/utf8.first", laid_unicode_utf8_first)], narrowed := true }
def PairSettlesUptoSaid : Prop := pairSettlesUptoRow.holds Tryz.pinned (OpenSpec.upto pairSettlesSpec)

/-- 'withylaw27.PairMagics', WHERE WHAT IT READS IS OF BULK AT MOST 1048576: true; the input reads as it did. -/
def pairMagicsUptoRow : OpenClaim := { program := "ytncddkcponjlpaagreatdoor", sum := "b2b95e177dbf43c77893b35ebf54e4c7dc5d2f0b8bca985b84412e6ffaab39af", func := "withy/withylaw27.PairMagics", spec := "pairMagics", inPlace := ["internal/bytealg.IndexByteString", "internal/bytealg.IndexString", "internal/bytealg.CountString", "internal/abi.NoEscape"], unfollowed := true, recurses := true, named := ["internal/bytealg.MaxLen", "unicode/utf8.first", "unicode/utf8.acceptRanges"], apart := false, laid := [("unicode/utf8.acceptRanges", laid_unicode_utf8_acceptRanges), ("unicode/utf8.first", laid_unicode_utf8_first)], narrowed := true }
def PairMagicsUptoSaid : Prop := pairMagicsUptoRow.holds Tryz.pinned (OpenSpec.upto pairMagicsSpec)

end Rows
end Go.Proofs.YtncddkcponjlpaaGreatDoor
