/- What every frame of a tied card of the console's seat needs: the world of the witness, MaxLen's cell, the table of powers. -/
import Derived.Test.YteigigepmoicaaaGreatDoorCards
import Derived.Test.YteigigepmoicaaaGreatDoorTie
import Derived.Test.YteigigepmoicaaaGreatDoorCon19
import Derived.WalkKit
import Derived.ProofKit
import Derived.OpenShut
import Derived.SliceStrings
import Derived.Shelf.Vars
import Derived.LaidSub
import Derived.MakeChecks
import Derived.Deep.DeepLaidRun
import Derived.Deep.DeepHandedRow
namespace Go.Proofs.YteigigepmoicaaaGreatDoor
open Go.ChangeShapes Go.WideShapes Go.ChangeAt Go.RowKit
theorem ownKnobNone : ownKnob Tryz.prog.godebug = none := by kernel_rfl
theorem laidOutAll : laidOutB Tryz.prog = true := by kernel_rfl
theorem maxLenIs_shape {W : World} (h : W.ShapedOpen Tryz.prog) : ∃ m, MaxLenIs W m :=
  cell_of_shapedOpen_int (P := Tryz.prog) (g := 0) (t := 3) (zero := #[.int .i64 0]) h (of_decide_eq_true (by kernel_rfl)) (by kernel_rfl) rfl (by kernel_rfl) (by kernel_rfl) Tryz.underlying3
/-- the powers' table out of what the row lists -/
theorem tabW_of {W : World} (h : laidMetH Tryz.prog Rows.consoleRunsRow.laid W) : TabW W := by
  rw [Go.MakeChecks.laidMetH_plain _ _ _ (by kernel_rfl)] at h
  have h2 := h.filter (fun x => x.1 == "internal/strconv.uint64pow10")
  have e : Rows.consoleRunsRow.laid.filter (fun x => x.1 == "internal/strconv.uint64pow10") = [("internal/strconv.uint64pow10", Lib.tabData .u64 Lib.pow10Tab)] := by kernel_rfl
  rw [e] at h2
  exact Lib.tabIs_of_head (g := 3) (t := 162) (e := 72) (n := 20) (by kernel_rfl) (by kernel_rfl) Tryz.underlying162 Tryz.underlying72 (by kernel_rfl) (by kernel_rfl) h2
/-- the cells of a plain datum -/
def flat0 : DataW Unit → List Value
  | .lit (.int k n) => [.int k n]
  | _ => []
def flat1 : DataW Unit → List Value
  | .agg l => l.flatMap flat0
  | d => flat0 d
def flat2 : DataW Unit → List Value
  | .agg l => l.flatMap flat1
  | d => flat0 d
def putCells (cs : List Value) : Obj → Obj
  | .cells _ t frozen => .cells cs.toArray t frozen
  | o => o
def errText : DataW Unit → ByteArray
  | .iface _ (.ptr (.agg [.lit (.string s)])) => ⟨s.toArray⟩
  | _ => ByteArray.empty
/-- So many blocks has the settled world. -/
noncomputable def low : Nat := (World.holding Tryz.prog default ⟨#[], #[], []⟩).heap.size
/-- a world for the witness: the settled one with the two errors' texts, the listed variables holding what their text lays -/
noncomputable def laidWorld (os : Os) : World :=
  let w0 := World.holding Tryz.prog os ⟨#[.cells #[.string (errText Rows.laid_strconv_ErrRange)] 185, .cells #[.string (errText Rows.laid_strconv_ErrSyntax)] 185], #[], []⟩
  { w0 with heap := ((((((w0.heap.modify 1 (putCells (flat2 Rows.laid_unicode_utf8_first))).modify 2 (putCells (flat2 Rows.laid_unicode_utf8_acceptRanges))).modify 3 (putCells (flat2 Rows.laid_internal_strconv_uint64pow10))).modify 6 (putCells (flat2 Rows.laid_math_bits_deBruijn32tab))).modify 7 (putCells (flat2 Rows.laid_math_bits_deBruijn64tab))).modify 5 (putCells [.iface 183 (.pointer (some ⟨low, 0, none⟩))])).modify 4 (putCells [.iface 183 (.pointer (some ⟨low + 1, 0, none⟩))]) }
theorem laidMet_any (os : Os) (args : Array Value) : laidMet Tryz.prog Rows.consoleRunsRow.laid ((laidWorld os).forCall (fun _ _ => 0) ⟨#[], args, []⟩).memory :=
  laidMet_of_run3 8 (by kernel_rfl) (by kernel_rfl) (by kernel_rfl)
end Go.Proofs.YteigigepmoicaaaGreatDoor
