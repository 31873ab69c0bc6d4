/- What every frame of a tied card of this seat needs: the world of the witness, MaxLen's cell, slices of texts that came in. -/
import Derived.Test.YtagnbdenecphcaaGreatDoorCards
import Derived.Test.YtagnbdenecphcaaGreatDoorTie
import Derived.Test.YtagnbdenecphcaaGreatDoorMg1
import Derived.Test.YtagnbdenecphcaaGreatDoorLink
import Derived.WalkKit
import Derived.ProofKit
import Derived.OpenShut
import Derived.SliceStrings
import Derived.Shelf.Vars
import Derived.Deep.DeepHandedRow
namespace Go.Proofs.YtagnbdenecphcaaGreatDoor
open Go.ChangeShapes Go.WideShapes Go.ChangeAt Go.RowKit
theorem ownKnobNone : ownKnob Tryz.prog.godebug = none := by kernel_rfl
theorem laidOutAll : laidOutB Tryz.prog = true := by kernel_rfl
theorem maxLenIs_shape {W : World} (h : W.ShapedOpen Tryz.prog) : ∃ m, MaxLenIs W m :=
  cell_of_shapedOpen_int (P := Tryz.prog) (g := 0) (t := 3) (zero := #[.int .i64 0]) h (of_decide_eq_true (by kernel_rfl)) (by kernel_rfl) rfl (by kernel_rfl) (by kernel_rfl) Tryz.underlying3
/-- the cells of a plain datum -/
def flat0 : DataW Unit → List Value
  | .lit (.int k n) => [.int k n]
  | _ => []
def flat1 : DataW Unit → List Value
  | .agg l => l.flatMap flat0
  | d => flat0 d
def flat2 : DataW Unit → List Value
  | .agg l => l.flatMap flat1
  | d => flat0 d
def putCells (cs : List Value) : Obj → Obj
  | .cells _ t frozen => .cells cs.toArray t frozen
  | o => o
/-- a world for the witness: the settled one, the listed variables holding what their text lays -/
noncomputable def laidWorld (os : Os) : World :=
  { World.holding Tryz.prog os ⟨#[], #[], []⟩ with heap := ((World.holding Tryz.prog os ⟨#[], #[], []⟩).heap.modify 1 (putCells (flat2 Rows.laid_unicode_utf8_first))).modify 2 (putCells (flat2 Rows.laid_unicode_utf8_acceptRanges)) }
theorem laidMet_any (os : Os) (args : Array Value) : laidMet Tryz.prog Rows.negActsRow.laid ((laidWorld os).forCall (fun _ _ => 0) ⟨#[], args, []⟩).memory :=
  laidMet_of_run' 8 (by kernel_rfl) (by kernel_rfl)
end Go.Proofs.YtagnbdenecphcaaGreatDoor
