/- What every frame of a tied card of this seat needs: the world of the witness, MaxLen's cell, slices of texts that came in. -/
import Derived.Test.YthijchjdkicbdaaDoorCards
import Derived.Test.YthijchjdkicbdaaDoorTie
import Derived.Test.YthijchjdkicbdaaDoorLawStuff3
import Derived.WalkKit
import Derived.ProofKit
import Derived.OpenShut
import Derived.SliceStrings
import Derived.Shelf.Vars
import Derived.Deep.DeepHandedRow
namespace Go.Proofs.YthijchjdkicbdaaDoor
open Go.ChangeShapes Go.WideShapes Go.ChangeAt Go.RowKit
theorem ownKnobNone : ownKnob Tryd.prog.godebug = none := by kernel_rfl
theorem laidOutAll : laidOutB Tryd.prog = true := by kernel_rfl
theorem maxLenIs_shape {W : World} (h : W.ShapedOpen Tryd.prog) : ∃ m, MaxLenIs W m :=
  cell_of_shapedOpen_int (P := Tryd.prog) (g := 0) (t := 3) (zero := #[.int .i64 0]) h (of_decide_eq_true (by kernel_rfl)) (by kernel_rfl) rfl (by kernel_rfl) (by kernel_rfl) Tryd.underlying3
/-- the cells of a plain datum -/
def flat0 : DataW Unit → List Value
  | .lit (.int k n) => [.int k n]
  | _ => []
def flat1 : DataW Unit → List Value
  | .agg l => l.flatMap flat0
  | d => flat0 d
def flat2 : DataW Unit → List Value
  | .agg l => l.flatMap flat1
  | d => flat0 d
def putCells (cs : List Value) : Obj → Obj
  | .cells _ t frozen => .cells cs.toArray t frozen
  | o => o
/-- a world for the witness: the settled one, the listed variables holding what their text lays -/
noncomputable def laidWorld (os : Os) : World :=
  { World.holding Tryd.prog os ⟨#[], #[], []⟩ with heap := ((World.holding Tryd.prog os ⟨#[], #[], []⟩).heap.modify 1 (putCells (flat2 Rows.laid_unicode_utf8_first))).modify 2 (putCells (flat2 Rows.laid_unicode_utf8_acceptRanges)) }
theorem laidMet_any (os : Os) (args : Array Value) : laidMet Tryd.prog Rows.stuffsRow.laid ((laidWorld os).forCall (fun _ _ => 0) ⟨#[], args, []⟩).memory :=
  laidMet_of_run' 8 (by kernel_rfl) (by kernel_rfl)
section
variable {H : Type}
theorem strs_cons (s : ByteArray) (l : List ByteArray) : (strs (s :: l) : List (DataW H)) = .lit (.string s.data.toList) :: strs l := rfl
theorem strs_bulk (l : List ByteArray) : ∀ j (h : j < l.length), l[j].size + l.length ≤ Rows.uptoBulkAll (strs l : List (DataW H)) := by
  induction l with
  | nil => intro j h; simp at h
  | cons s l ih =>
    intro j h
    have hlen : l.length ≤ Rows.uptoBulkAll (strs l : List (DataW H)) := by
      clear ih h j
      induction l with
      | nil => simp
      | cons s l ih => rw [strs_cons, Rows.uptoBulkAll, Rows.uptoBulk, List.length_cons]; omega
    rw [strs_cons, Rows.uptoBulkAll, Rows.uptoBulk, List.length_cons, len_toList]
    cases j with
    | zero => simp only [List.getElem_cons_zero]; omega
    | succ j =>
      have := ih j (by simpa using h)
      simp only [List.getElem_cons_succ]; omega
end
/-- a slice of texts that came in, opened -/
theorem open_texts {H : Type} {enc : TypeId × Value → H} {W : World} {base : Nat} {sp : Nat → Bool} {held : Bool} {fuel : Nat} {pa : Option Addr} {len cap : Nat} {d : DataW H} {p : List MemPlace}
    (h : DataW.trod enc Tryd.prog W base sp held fuel 27 [.slice pa len cap] = some (d, p)) :
    ∃ l : List ByteArray, l.length = len ∧ len ≤ maxLen ∧ TextsIn W pa l ∧ (∀ s ∈ l, s.size ≤ maxLen) ∧ ((d = .nil ∧ l = []) ∨ ∃ r, d = .slice (strs l) r) := by
  rcases open_strings Tryd.underlying27 Tryd.underlying9 (by kernel_rfl) h with ⟨hcs, hx⟩ | ⟨a, l, c, ss, hcs, _, hl, hm, hz, hx, hcell, hw⟩
  · simp at hcs hx
    obtain ⟨rfl, rfl, rfl⟩ := hcs
    exact ⟨[], rfl, Nat.zero_le _, fun j hj => absurd hj (by simp), by simp, .inl ⟨hx.1, rfl⟩⟩
  · simp at hcs hx
    obtain ⟨rfl, rfl, rfl⟩ := hcs
    have hle : len ≤ ss.length := by rw [hz]; split <;> omega
    refine ⟨ss.take len, by simp; omega, by omega, ?_, fun s hs => hw s (List.mem_of_mem_take hs), .inr ⟨_, hx.1⟩⟩
    intro j hj
    have hj' : j < len ∧ j < ss.length := by rw [List.length_take] at hj; omega
    obtain ⟨b, off, spot⟩ := a
    obtain rfl : spot = none := by
      have := World.cell?_spot (hcell 0 (by omega))
      simpa [Addr.add] using this
    refine ⟨b, off, rfl, ?_⟩
    have hc := hcell j hj'.2
    have hadd : (⟨b, off, none⟩ : Addr).add j = ⟨b, off + j, none⟩ := by unfold Addr.add; split <;> simp_all
    rw [hadd] at hc
    rw [hc, List.getD_eq_getElem?_getD, List.getElem?_eq_getElem hj'.2, List.getElem_take]; rfl
end Go.Proofs.YthijchjdkicbdaaDoor
