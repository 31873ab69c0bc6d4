/- The reference's automaton: row, action, Step. -/
import Derived.Test.YteigigepmoicaaaGreatDoorMg4
namespace Go.Proofs.YteigigepmoicaaaGreatDoor
open Go.RowKit
set_option linter.unusedVariables false
def rowCells (v : Nat) : Array Value := ((tableT.getD v []).map fun c => Value.string (bytesOf c)).toArray
theorem rowCells_all : (List.range 160).map (fun i => (rowCells (i / 10))[i % 10]?) = (List.range 160).map (fun i => some (Value.string (bytesOf (cellT (i / 10) (i % 10))))) := by kernel_rfl
theorem rowCells_at (v s : Nat) (hv : v < 16) (hs : s < 10) : (rowCells v)[s]? = some (.string (bytesOf (cellT v s))) := by
  have h := congrArg (·[v * 10 + s]?) rowCells_all
  simp only [List.getElem?_map, List.getElem?_range (show v * 10 + s < 160 by omega), Option.map_some] at h
  have e1 : (v * 10 + s) / 10 = v := by omega
  have e2 : (v * 10 + s) % 10 = s := by omega
  rw [e1, e2] at h
  exact Option.some.inj h
set_option maxRecDepth 100000 in
set_option maxHeartbeats 4000000 in
theorem rrow_in (v : Nat) (w : World) (hv : v < 16) : Calls Tryz.prog 39 #[.int .i64 v] w fun e w' => e = .returned (.slice (some ⟨w.heap.size, 0, none⟩) 10 10) ∧ w' = w.alloc (.cells (rowCells v) 9) := by
  have hc : v = 0 ∨ v = 1 ∨ v = 2 ∨ v = 3 ∨ v = 4 ∨ v = 5 ∨ v = 6 ∨ v = 7 ∨ v = 8 ∨ v = 9 ∨ v = 10 ∨ v = 11 ∨ v = 12 ∨ v = 13 ∨ v = 14 ∨ v = 15 := by omega
  rcases hc with rfl | rfl | rfl | rfl | rfl | rfl | rfl | rfl | rfl | rfl | rfl | rfl | rfl | rfl | rfl | rfl
  all_goals
    clear hv
    go_enter Tryz.func39, Tryz.ntmps39
    go_wp2_with fail
    go_ret
    exact ⟨rfl, rfl⟩
set_option maxHeartbeats 4000000 in
theorem rrow_out (v : Int) (w : World) (hv : v < 0 ∨ 16 ≤ v) : Calls Tryz.prog 39 #[.int .i64 v] w fun e w' => e = .returned (.slice none 0 0) ∧ w' = w := by
  rcases hv with h | h
  all_goals
    go_enter Tryz.func39, Tryz.ntmps39
    go_wp2_with fail
    go_ret
    exact ⟨rfl, rfl⟩
/-- an action's number -/
def actNum (l : List UInt8) : Int := match (List.range 13).find? (fun i => nameAt (i + 1) == l) with | some i => (i : Int) + 1 | none => 0
theorem actNum_hit (l : List UInt8) (k : Nat) (hk : k < 13) (h : ∀ i, i < k → nameAt (i + 1) ≠ l) (hx : nameAt (k + 1) = l) : actNum l = (k : Int) + 1 := by
  unfold actNum
  have : (List.range 13).find? (fun i => nameAt (i + 1) == l) = some k := by
    rw [List.find?_range_eq_some]
    refine ⟨by simpa using hx, List.mem_range.2 hk, fun j hj => ?_⟩
    simpa using h j hj
  rw [this]
theorem actNum_none (l : List UInt8) (h : ∀ i, i < 13 → nameAt (i + 1) ≠ l) : actNum l = 0 := by
  unfold actNum
  have : (List.range 13).find? (fun i => nameAt (i + 1) == l) = none := by
    rw [List.find?_range_eq_none]
    intro i hi
    simpa using h i hi
  rw [this]
end Go.Proofs.YteigigepmoicaaaGreatDoor
