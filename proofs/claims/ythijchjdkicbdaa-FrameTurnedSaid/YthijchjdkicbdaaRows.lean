/-
  No cell of these rows narrows 'for every input' (looked for: loops, veiled, ifaces, maps, wideKeys, modest, calm, conditions, laid).
  DERIVED. THE GIVEN ROWS OF THIS SEAT. 11 by the template 'for every input the law returns true; each argument reads behind the call as it read before'; 0 by the template 'total and deterministic' (their statements: YthijchjdkicbdaaTotals.lean).
  GIVEN WITH THE SEED: the statements are not yours to turn. If you find one false, say at which input.
  Laid BY PROGRAM, IN A SANDBOX (cutbox-rows.mjs): the forced cells as the released guide's own fill.sh prints them over the translation b06b3372784a1ef1… (all of the seat's roots in one cut). By AI agents, Wed Nov 11 2026. No macro, syntax, notation, axiom, sorry.
-/
import Derived.Test.YthijchjdkicbdaaChecked
import GoSem.Claim
import GoSem.ClaimJoined
import GoSem.ClaimMapViews
import Derived.JoinedTies
import Derived.KernelRfl
namespace Go.Proofs.Ythijchjdkicbdaa
/- THE CELL 'sum', in the pinned program and in every row, IS THE sha256 OF THE DUMP (.gsa) THAT YthijchjdkicbdaaProg.lean LOADS. Nothing in Lean hashes anything: it is a label: what it is worth is what the hold of that sum in a sandbox is worth. -/
noncomputable def Try.pinned : Pinned := { name := "ythijchjdkicbdaa", sum := "b06b3372784a1ef103fa075ff7154b8f39fefda17487860a4ad8a372ed0a5f6a", checked := Try.checked }
namespace Rows
def none {H : Type} : Left H := { results := [], args := [] }

/-- 'withylaw1.FcsAll': WHATEVER THE INPUT: true; the input reads as it did. -/
def fcsAllSpec : ChangeSpec := { name := "fcsAll", fn := fun _ => fun
  | [d] => { results := [.lit (.bool true)], args := [d] }
  | _ => none }
def fcsAllRow : OpenClaim := { program := "ythijchjdkicbdaa", sum := "b06b3372784a1ef103fa075ff7154b8f39fefda17487860a4ad8a372ed0a5f6a", func := "withy/withylaw1.FcsAll", spec := "fcsAll", apart := false }
def FcsAllSaid : Prop := fcsAllRow.holds Try.pinned (OpenSpec.ofChange fcsAllSpec)

/-- ITS FALSE NEIGHBOUR: 'it returns false'. Refute it at one input. -/
def fcsAllWrong : ChangeSpec := { name := "fcsAll", fn := fun _ => fun
  | [d] => { results := [.lit (.bool false)], args := [d] }
  | _ => none }
def FcsAllWrongFalsely : Prop := fcsAllRow.holds Try.pinned (OpenSpec.ofChange fcsAllWrong)

/-- 'withylaw1.FcsBits': WHATEVER THE INPUT: true; the input reads as it did. -/
def fcsBitsSpec : ChangeSpec := { name := "fcsBits", fn := fun _ => fun
  | [d1, d2] => { results := [.lit (.bool true)], args := [d1, d2] }
  | _ => none }
def fcsBitsRow : OpenClaim := { program := "ythijchjdkicbdaa", sum := "b06b3372784a1ef103fa075ff7154b8f39fefda17487860a4ad8a372ed0a5f6a", func := "withy/withylaw1.FcsBits", spec := "fcsBits", apart := false }
def FcsBitsSaid : Prop := fcsBitsRow.holds Try.pinned (OpenSpec.ofChange fcsBitsSpec)

/-- ITS FALSE NEIGHBOUR: 'it returns false'. Refute it at one input. -/
def fcsBitsWrong : ChangeSpec := { name := "fcsBits", fn := fun _ => fun
  | [d1, d2] => { results := [.lit (.bool false)], args := [d1, d2] }
  | _ => none }
def FcsBitsWrongFalsely : Prop := fcsBitsRow.holds Try.pinned (OpenSpec.ofChange fcsBitsWrong)

/-- 'withylaw1.FcsSteps': WHATEVER THE INPUT: true; the input reads as it did. -/
def fcsStepsSpec : ChangeSpec := { name := "fcsSteps", fn := fun _ => fun
  | [d1, d2] => { results := [.lit (.bool true)], args := [d1, d2] }
  | _ => none }
def fcsStepsRow : OpenClaim := { program := "ythijchjdkicbdaa", sum := "b06b3372784a1ef103fa075ff7154b8f39fefda17487860a4ad8a372ed0a5f6a", func := "withy/withylaw1.FcsSteps", spec := "fcsSteps", apart := false }
def FcsStepsSaid : Prop := fcsStepsRow.holds Try.pinned (OpenSpec.ofChange fcsStepsSpec)

/-- ITS FALSE NEIGHBOUR: 'it returns false'. Refute it at one input. -/
def fcsStepsWrong : ChangeSpec := { name := "fcsSteps", fn := fun _ => fun
  | [d1, d2] => { results := [.lit (.bool false)], args := [d1, d2] }
  | _ => none }
def FcsStepsWrongFalsely : Prop := fcsStepsRow.holds Try.pinned (OpenSpec.ofChange fcsStepsWrong)

/-- 'withylaw1.FcsResidue': WHATEVER THE INPUT: true; the input reads as it did. -/
def fcsResidueSpec : ChangeSpec := { name := "fcsResidue", fn := fun _ => fun
  | [d1, d2] => { results := [.lit (.bool true)], args := [d1, d2] }
  | _ => none }
def fcsResidueRow : OpenClaim := { program := "ythijchjdkicbdaa", sum := "b06b3372784a1ef103fa075ff7154b8f39fefda17487860a4ad8a372ed0a5f6a", func := "withy/withylaw1.FcsResidue", spec := "fcsResidue", apart := false }
def FcsResidueSaid : Prop := fcsResidueRow.holds Try.pinned (OpenSpec.ofChange fcsResidueSpec)

/-- ITS FALSE NEIGHBOUR: 'it returns false'. Refute it at one input. -/
def fcsResidueWrong : ChangeSpec := { name := "fcsResidue", fn := fun _ => fun
  | [d1, d2] => { results := [.lit (.bool false)], args := [d1, d2] }
  | _ => none }
def FcsResidueWrongFalsely : Prop := fcsResidueRow.holds Try.pinned (OpenSpec.ofChange fcsResidueWrong)

/-- 'withylaw1.FcsShorts': WHATEVER THE INPUT: true; the input reads as it did. -/
def fcsShortsSpec : ChangeSpec := { name := "fcsShorts", fn := fun _ => fun
  | [d1, d2] => { results := [.lit (.bool true)], args := [d1, d2] }
  | _ => none }
def fcsShortsRow : OpenClaim := { program := "ythijchjdkicbdaa", sum := "b06b3372784a1ef103fa075ff7154b8f39fefda17487860a4ad8a372ed0a5f6a", func := "withy/withylaw1.FcsShorts", spec := "fcsShorts", apart := false }
def FcsShortsSaid : Prop := fcsShortsRow.holds Try.pinned (OpenSpec.ofChange fcsShortsSpec)

/-- ITS FALSE NEIGHBOUR: 'it returns false'. Refute it at one input. -/
def fcsShortsWrong : ChangeSpec := { name := "fcsShorts", fn := fun _ => fun
  | [d1, d2] => { results := [.lit (.bool false)], args := [d1, d2] }
  | _ => none }
def FcsShortsWrongFalsely : Prop := fcsShortsRow.holds Try.pinned (OpenSpec.ofChange fcsShortsWrong)

/-- 'withylaw3.FramePuts': WHATEVER THE INPUT: true; the input reads as it did. -/
def framePutsSpec : ChangeSpec := { name := "framePuts", fn := fun _ => fun
  | [d1, d2] => { results := [.lit (.bool true)], args := [d1, d2] }
  | _ => none }
def framePutsRow : OpenClaim := { program := "ythijchjdkicbdaa", sum := "b06b3372784a1ef103fa075ff7154b8f39fefda17487860a4ad8a372ed0a5f6a", func := "withy/withylaw3.FramePuts", spec := "framePuts", inPlace := ["internal/abi.NoEscape", "internal/bytealg.IndexByteString"], apart := false }
def FramePutsSaid : Prop := framePutsRow.holds Try.pinned (OpenSpec.ofChange framePutsSpec)

/-- ITS FALSE NEIGHBOUR: 'it returns false'. Refute it at one input. -/
def framePutsWrong : ChangeSpec := { name := "framePuts", fn := fun _ => fun
  | [d1, d2] => { results := [.lit (.bool false)], args := [d1, d2] }
  | _ => none }
def FramePutsWrongFalsely : Prop := framePutsRow.holds Try.pinned (OpenSpec.ofChange framePutsWrong)

/-- 'withylaw3.FrameGets': WHATEVER THE INPUT: true; the input reads as it did. -/
def frameGetsSpec : ChangeSpec := { name := "frameGets", fn := fun _ => fun
  | [d1, d2, d3] => { results := [.lit (.bool true)], args := [d1, d2, d3] }
  | _ => none }
def frameGetsRow : OpenClaim := { program := "ythijchjdkicbdaa", sum := "b06b3372784a1ef103fa075ff7154b8f39fefda17487860a4ad8a372ed0a5f6a", func := "withy/withylaw3.FrameGets", spec := "frameGets", inPlace := ["internal/bytealg.IndexByteString", "internal/abi.NoEscape"], apart := false }
def FrameGetsSaid : Prop := frameGetsRow.holds Try.pinned (OpenSpec.ofChange frameGetsSpec)

/-- ITS FALSE NEIGHBOUR: 'it returns false'. Refute it at one input. -/
def frameGetsWrong : ChangeSpec := { name := "frameGets", fn := fun _ => fun
  | [d1, d2, d3] => { results := [.lit (.bool false)], args := [d1, d2, d3] }
  | _ => none }
def FrameGetsWrongFalsely : Prop := frameGetsRow.holds Try.pinned (OpenSpec.ofChange frameGetsWrong)

/-- 'withylaw3.FrameTurned': WHATEVER THE INPUT: true; the input reads as it did. -/
def frameTurnedSpec : ChangeSpec := { name := "frameTurned", fn := fun _ => fun
  | [d1, d2] => { results := [.lit (.bool true)], args := [d1, d2] }
  | _ => none }
def frameTurnedRow : OpenClaim := { program := "ythijchjdkicbdaa", sum := "b06b3372784a1ef103fa075ff7154b8f39fefda17487860a4ad8a372ed0a5f6a", func := "withy/withylaw3.FrameTurned", spec := "frameTurned", inPlace := ["internal/abi.NoEscape", "internal/bytealg.IndexByteString"], apart := false }
def FrameTurnedSaid : Prop := frameTurnedRow.holds Try.pinned (OpenSpec.ofChange frameTurnedSpec)

/-- ITS FALSE NEIGHBOUR: 'it returns false'. Refute it at one input. -/
def frameTurnedWrong : ChangeSpec := { name := "frameTurned", fn := fun _ => fun
  | [d1, d2] => { results := [.lit (.bool false)], args := [d1, d2] }
  | _ => none }
def FrameTurnedWrongFalsely : Prop := frameTurnedRow.holds Try.pinned (OpenSpec.ofChange frameTurnedWrong)

/-- 'withylaw3.FrameProtos': WHATEVER THE INPUT: true; the input reads as it did. -/
def frameProtosSpec : ChangeSpec := { name := "frameProtos", fn := fun _ => fun
  | [d1, d2] => { results := [.lit (.bool true)], args := [d1, d2] }
  | _ => none }
def frameProtosRow : OpenClaim := { program := "ythijchjdkicbdaa", sum := "b06b3372784a1ef103fa075ff7154b8f39fefda17487860a4ad8a372ed0a5f6a", func := "withy/withylaw3.FrameProtos", spec := "frameProtos", inPlace := ["internal/abi.NoEscape", "internal/bytealg.IndexByteString"], apart := false }
def FrameProtosSaid : Prop := frameProtosRow.holds Try.pinned (OpenSpec.ofChange frameProtosSpec)

/-- ITS FALSE NEIGHBOUR: 'it returns false'. Refute it at one input. -/
def frameProtosWrong : ChangeSpec := { name := "frameProtos", fn := fun _ => fun
  | [d1, d2] => { results := [.lit (.bool false)], args := [d1, d2] }
  | _ => none }
def FrameProtosWrongFalsely : Prop := frameProtosRow.holds Try.pinned (OpenSpec.ofChange frameProtosWrong)

/-- 'withylaw3.FrameHeads': WHATEVER THE INPUT: true; the input reads as it did. -/
def frameHeadsSpec : ChangeSpec := { name := "frameHeads", fn := fun _ => fun
  | [d1, d2, d3] => { results := [.lit (.bool true)], args := [d1, d2, d3] }
  | _ => none }
def frameHeadsRow : OpenClaim := { program := "ythijchjdkicbdaa", sum := "b06b3372784a1ef103fa075ff7154b8f39fefda17487860a4ad8a372ed0a5f6a", func := "withy/withylaw3.FrameHeads", spec := "frameHeads", inPlace := ["internal/abi.NoEscape", "internal/bytealg.IndexByteString"], apart := false }
def FrameHeadsSaid : Prop := frameHeadsRow.holds Try.pinned (OpenSpec.ofChange frameHeadsSpec)

/-- ITS FALSE NEIGHBOUR: 'it returns false'. Refute it at one input. -/
def frameHeadsWrong : ChangeSpec := { name := "frameHeads", fn := fun _ => fun
  | [d1, d2, d3] => { results := [.lit (.bool false)], args := [d1, d2, d3] }
  | _ => none }
def FrameHeadsWrongFalsely : Prop := frameHeadsRow.holds Try.pinned (OpenSpec.ofChange frameHeadsWrong)

/-- 'withylaw3.FrameMaps': WHATEVER THE INPUT: true; the input reads as it did. -/
def frameMapsSpec : ChangeSpec := { name := "frameMaps", fn := fun _ => fun
  | [d1, d2, d3] => { results := [.lit (.bool true)], args := [d1, d2, d3] }
  | _ => none }
def frameMapsRow : OpenClaim := { program := "ythijchjdkicbdaa", sum := "b06b3372784a1ef103fa075ff7154b8f39fefda17487860a4ad8a372ed0a5f6a", func := "withy/withylaw3.FrameMaps", spec := "frameMaps", inPlace := ["internal/abi.NoEscape", "internal/bytealg.IndexByteString"], apart := false }
def FrameMapsSaid : Prop := frameMapsRow.holds Try.pinned (OpenSpec.ofChange frameMapsSpec)

/-- ITS FALSE NEIGHBOUR: 'it returns false'. Refute it at one input. -/
def frameMapsWrong : ChangeSpec := { name := "frameMaps", fn := fun _ => fun
  | [d1, d2, d3] => { results := [.lit (.bool false)], args := [d1, d2, d3] }
  | _ => none }
def FrameMapsWrongFalsely : Prop := frameMapsRow.holds Try.pinned (OpenSpec.ofChange frameMapsWrong)

/- THE SECOND FORM. 'bulk': how many values and letters a reading holds, each counted each time it is reached (what is shared counts as often as it is met; a slice's spare places count too). A statement '..UptoSaid' is the law's where the arguments, and the package variables that the reading takes, are together of bulk at most 1048576: NARROWER than '..Said'. Prove '..Said' where nothing that the law and all that it calls make is longer than what came in: it says more and counts as full. Else prove '..UptoSaid'. A law counts once. -/
mutual
def uptoBulk {H : Type} : DataW H → Nat
  | .lit (.string bytes) => bytes.length + 1
  | .lit _ => 1
  | .nil => 1
  | .ptr d => uptoBulk d + 1
  | .slice elems spare => uptoBulkAll elems + uptoBulkAll spare + 1
  | .agg parts => uptoBulkAll parts + 1
  | .iface _ d => uptoBulk d + 1
  | .map entries => uptoBulkEntries entries + 1
  | .held _ => 1
def uptoBulkAll {H : Type} : List (DataW H) → Nat
  | [] => 0
  | d :: r => uptoBulk d + uptoBulkAll r
def uptoBulkEntries {H : Type} : List (Lit × DataW H) → Nat
  | [] => 0
  | x :: r => uptoBulkEntry x + uptoBulkEntries r
def uptoBulkEntry {H : Type} : Lit × DataW H → Nat
  | (.string bytes, d) => bytes.length + uptoBulk d + 1
  | (_, d) => uptoBulk d + 1
 end
def uptoSmall : (H : Type) → List (DataW H) → Bool := fun _ ds => decide (uptoBulkAll ds ≤ 1048576)
def OpenSpec.upto (s : _root_.Go.ChangeSpec) : _root_.Go.OpenSpec := { _root_.Go.OpenSpec.ofChange s with cond := some uptoSmall }

/-- 'withylaw1.FcsAll', WHERE WHAT IT READS IS OF BULK AT MOST 1048576: true; the input reads as it did. -/
def fcsAllUptoRow : OpenClaim := { program := "ythijchjdkicbdaa", sum := "b06b3372784a1ef103fa075ff7154b8f39fefda17487860a4ad8a372ed0a5f6a", func := "withy/withylaw1.FcsAll", spec := "fcsAll", apart := false, narrowed := true }
def FcsAllUptoSaid : Prop := fcsAllUptoRow.holds Try.pinned (OpenSpec.upto fcsAllSpec)

/-- 'withylaw1.FcsBits', WHERE WHAT IT READS IS OF BULK AT MOST 1048576: true; the input reads as it did. -/
def fcsBitsUptoRow : OpenClaim := { program := "ythijchjdkicbdaa", sum := "b06b3372784a1ef103fa075ff7154b8f39fefda17487860a4ad8a372ed0a5f6a", func := "withy/withylaw1.FcsBits", spec := "fcsBits", apart := false, narrowed := true }
def FcsBitsUptoSaid : Prop := fcsBitsUptoRow.holds Try.pinned (OpenSpec.upto fcsBitsSpec)

/-- 'withylaw1.FcsSteps', WHERE WHAT IT READS IS OF BULK AT MOST 1048576: true; the input reads as it did. -/
def fcsStepsUptoRow : OpenClaim := { program := "ythijchjdkicbdaa", sum := "b06b3372784a1ef103fa075ff7154b8f39fefda17487860a4ad8a372ed0a5f6a", func := "withy/withylaw1.FcsSteps", spec := "fcsSteps", apart := false, narrowed := true }
def FcsStepsUptoSaid : Prop := fcsStepsUptoRow.holds Try.pinned (OpenSpec.upto fcsStepsSpec)

/-- 'withylaw1.FcsResidue', WHERE WHAT IT READS IS OF BULK AT MOST 1048576: true; the input reads as it did. -/
def fcsResidueUptoRow : OpenClaim := { program := "ythijchjdkicbdaa", sum := "b06b3372784a1ef103fa075ff7154b8f39fefda17487860a4ad8a372ed0a5f6a", func := "withy/withylaw1.FcsResidue", spec := "fcsResidue", apart := false, narrowed := true }
def FcsResidueUptoSaid : Prop := fcsResidueUptoRow.holds Try.pinned (OpenSpec.upto fcsResidueSpec)

/-- 'withylaw1.FcsShorts', WHERE WHAT IT READS IS OF BULK AT MOST 1048576: true; the input reads as it did. -/
def fcsShortsUptoRow : OpenClaim := { program := "ythijchjdkicbdaa", sum := "b06b3372784a1ef103fa075ff7154b8f39fefda17487860a4ad8a372ed0a5f6a", func := "withy/withylaw1.FcsShorts", spec := "fcsShorts", apart := false, narrowed := true }
def FcsShortsUptoSaid : Prop := fcsShortsUptoRow.holds Try.pinned (OpenSpec.upto fcsShortsSpec)

/-- 'withylaw3.FramePuts', WHERE WHAT IT READS IS OF BULK AT MOST 1048576: true; the input reads as it did. -/
def framePutsUptoRow : OpenClaim := { program := "ythijchjdkicbdaa", sum := "b06b3372784a1ef103fa075ff7154b8f39fefda17487860a4ad8a372ed0a5f6a", func := "withy/withylaw3.FramePuts", spec := "framePuts", inPlace := ["internal/abi.NoEscape", "internal/bytealg.IndexByteString"], apart := false, narrowed := true }
def FramePutsUptoSaid : Prop := framePutsUptoRow.holds Try.pinned (OpenSpec.upto framePutsSpec)

/-- 'withylaw3.FrameGets', WHERE WHAT IT READS IS OF BULK AT MOST 1048576: true; the input reads as it did. -/
def frameGetsUptoRow : OpenClaim := { program := "ythijchjdkicbdaa", sum := "b06b3372784a1ef103fa075ff7154b8f39fefda17487860a4ad8a372ed0a5f6a", func := "withy/withylaw3.FrameGets", spec := "frameGets", inPlace := ["internal/bytealg.IndexByteString", "internal/abi.NoEscape"], apart := false, narrowed := true }
def FrameGetsUptoSaid : Prop := frameGetsUptoRow.holds Try.pinned (OpenSpec.upto frameGetsSpec)

/-- 'withylaw3.FrameTurned', WHERE WHAT IT READS IS OF BULK AT MOST 1048576: true; the input reads as it did. -/
def frameTurnedUptoRow : OpenClaim := { program := "ythijchjdkicbdaa", sum := "b06b3372784a1ef103fa075ff7154b8f39fefda17487860a4ad8a372ed0a5f6a", func := "withy/withylaw3.FrameTurned", spec := "frameTurned", inPlace := ["internal/abi.NoEscape", "internal/bytealg.IndexByteString"], apart := false, narrowed := true }
def FrameTurnedUptoSaid : Prop := frameTurnedUptoRow.holds Try.pinned (OpenSpec.upto frameTurnedSpec)

/-- 'withylaw3.FrameProtos', WHERE WHAT IT READS IS OF BULK AT MOST 1048576: true; the input reads as it did. -/
def frameProtosUptoRow : OpenClaim := { program := "ythijchjdkicbdaa", sum := "b06b3372784a1ef103fa075ff7154b8f39fefda17487860a4ad8a372ed0a5f6a", func := "withy/withylaw3.FrameProtos", spec := "frameProtos", inPlace := ["internal/abi.NoEscape", "internal/bytealg.IndexByteString"], apart := false, narrowed := true }
def FrameProtosUptoSaid : Prop := frameProtosUptoRow.holds Try.pinned (OpenSpec.upto frameProtosSpec)

/-- 'withylaw3.FrameHeads', WHERE WHAT IT READS IS OF BULK AT MOST 1048576: true; the input reads as it did. -/
def frameHeadsUptoRow : OpenClaim := { program := "ythijchjdkicbdaa", sum := "b06b3372784a1ef103fa075ff7154b8f39fefda17487860a4ad8a372ed0a5f6a", func := "withy/withylaw3.FrameHeads", spec := "frameHeads", inPlace := ["internal/abi.NoEscape", "internal/bytealg.IndexByteString"], apart := false, narrowed := true }
def FrameHeadsUptoSaid : Prop := frameHeadsUptoRow.holds Try.pinned (OpenSpec.upto frameHeadsSpec)

/-- 'withylaw3.FrameMaps', WHERE WHAT IT READS IS OF BULK AT MOST 1048576: true; the input reads as it did. -/
def frameMapsUptoRow : OpenClaim := { program := "ythijchjdkicbdaa", sum := "b06b3372784a1ef103fa075ff7154b8f39fefda17487860a4ad8a372ed0a5f6a", func := "withy/withylaw3.FrameMaps", spec := "frameMaps", inPlace := ["internal/abi.NoEscape", "internal/bytealg.IndexByteString"], apart := false, narrowed := true }
def FrameMapsUptoSaid : Prop := frameMapsUptoRow.holds Try.pinned (OpenSpec.upto frameMapsSpec)

end Rows
end Go.Proofs.Ythijchjdkicbdaa
