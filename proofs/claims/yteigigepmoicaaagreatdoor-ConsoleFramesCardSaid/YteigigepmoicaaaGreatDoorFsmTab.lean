/- The automaton's table, plain; Made. -/
import Derived.Test.YteigigepmoicaaaGreatDoorMg2
namespace Go.Proofs.YteigigepmoicaaaGreatDoor
open Go.RowKit
def tableT : List (List (List UInt8)) := [
  [[50], [105, 114, 99, 44, 115, 99, 114, 47, 54], [45], [45], [45], [45], [45], [45], [45], [45]],
  [[45], [45], [48], [116, 108, 115, 47, 49], [48], [49], [49], [49], [49], [116, 108, 100, 47, 49]],
  [[116, 108, 115, 47, 49], [49], [105, 114, 99, 44, 115, 99, 114, 47, 54], [51], [53], [53], [54], [55], [56], [57]],
  [[48], [116, 108, 102, 47, 48], [50], [50], [52], [52], [105, 114, 99, 44, 115, 116, 114, 47, 52], [105, 114, 99, 44, 115, 116, 114, 47, 52], [105, 114, 99, 44, 115, 116, 114, 47, 52], [116, 108, 100, 44, 105, 114, 99, 44, 115, 116, 114, 47, 52]],
  [[45], [45], [45], [45], [115, 116, 114, 47, 52], [115, 116, 114, 47, 53], [115, 99, 114, 47, 54], [115, 99, 114, 47, 54], [115, 99, 114, 47, 56], [45]],
  [[45], [45], [45], [45], [116, 108, 102, 47, 50], [116, 108, 102, 47, 51], [116, 108, 102, 47, 51], [116, 108, 102, 47, 51], [116, 108, 102, 47, 51], [45]],
  [[45], [45], [115, 116, 97, 47, 50], [105, 114, 99, 44, 115, 99, 114, 44, 115, 99, 97, 47, 56], [52], [53], [115, 99, 97, 47, 56], [115, 99, 97, 44, 116, 108, 117, 47, 57], [115, 99, 97, 47, 56], [116, 108, 100, 44, 115, 99, 114, 44, 115, 99, 97, 47, 56]],
  [[45], [45], [115, 116, 97, 47, 50], [105, 114, 99, 44, 115, 99, 114, 44, 115, 99, 110, 47, 54], [52], [53], [115, 99, 110, 47, 54], [115, 99, 110, 47, 55], [115, 99, 110, 47, 54], [116, 108, 100, 44, 115, 99, 114, 44, 115, 99, 110, 47, 54]],
  [[45], [45], [115, 116, 97, 47, 50], [115, 116, 97, 47, 51], [52], [53], [105, 114, 99, 47, 55], [115, 99, 114, 47, 54], [105, 114, 99, 44, 116, 108, 117, 47, 57], [116, 108, 100, 44, 115, 99, 114, 47, 54]],
  [[45], [45], [115, 116, 97, 47, 50], [115, 116, 97, 47, 51], [52], [53], [105, 114, 99, 44, 115, 99, 114, 47, 54], [115, 99, 114, 47, 54], [105, 114, 99, 44, 115, 99, 114, 47, 56], [116, 108, 100, 44, 115, 99, 114, 47, 54]],
  [[45], [45], [115, 116, 97, 47, 50], [115, 116, 97, 47, 51], [115, 116, 97, 47, 52], [115, 116, 97, 47, 53], [115, 116, 97, 47, 54], [115, 116, 97, 47, 54], [115, 116, 97, 47, 54], [116, 108, 100, 44, 122, 114, 99, 44, 115, 116, 97, 47, 53]],
  [[45], [45], [50], [51], [116, 108, 102, 47, 50], [116, 108, 102, 47, 51], [54], [54], [56], [116, 108, 100, 44, 115, 99, 114, 47, 54]],
  [[45], [45], [115, 99, 106, 47, 50], [115, 99, 106, 47, 51], [115, 99, 106, 47, 52], [115, 99, 106, 47, 53], [115, 99, 106, 47, 54], [115, 99, 106, 47, 55], [115, 99, 106, 47, 56], [115, 99, 106, 47, 57]],
  [[45], [45], [50], [51], [52], [53], [54], [54], [56], [57]],
  [[45], [45], [116, 108, 102, 47, 50], [116, 108, 102, 47, 51], [116, 108, 102, 47, 50], [116, 108, 102, 47, 51], [116, 108, 102, 47, 51], [116, 108, 102, 47, 51], [116, 108, 102, 47, 51], [116, 108, 100, 44, 105, 114, 99, 44, 115, 116, 114, 47, 53]],
  [[45], [45], [50], [51], [52], [53], [54], [55], [56], [115, 101, 114, 47, 57]]]
def cellT (v s : Nat) : List UInt8 := (tableT.getD v []).getD s []
/-- a pointer to a table in memory -/
def TableAt (w : World) (g : Nat) : Prop := ∀ v s, v < 16 → s < 10 → w.cell? ⟨g, v * 10 + s, none⟩ = some (.string (bytesOf (cellT v s)))
def tableCells : Array Value := (tableT.flatMap fun r => r.map fun c => Value.string (bytesOf c)).toArray
theorem tableCells_all : (List.range 160).map (fun i => tableCells[i]?) = (List.range 160).map (fun i => some (Value.string (bytesOf (cellT (i / 10) (i % 10))))) := by kernel_rfl
theorem tableCells_at (v s : Nat) (hv : v < 16) (hs : s < 10) : tableCells[v * 10 + s]? = some (.string (bytesOf (cellT v s))) := by
  have h := congrArg (·[v * 10 + s]?) tableCells_all
  simp only [List.getElem?_map, List.getElem?_range (show v * 10 + s < 160 by omega), Option.map_some] at h
  have e1 : (v * 10 + s) / 10 = v := by omega
  have e2 : (v * 10 + s) % 10 = s := by omega
  rw [e1, e2] at h
  exact Option.some.inj h
theorem wpList_build2 {P : Program} {ops : Array Oper} {rest : List Oper} {o : Oper} {a : Act} {w : World} {Q : Exit → Act → World → Prop} (hg : o.guard = none) (t : TypeId) (parts : Array (Nat × Operand)) (ho : o.op = .build t parts) (cells : Array Value)
    (hf : P.built t (parts.map fun (i, x) => (i, a.eval x)).toList = some cells)
    (h : wpList P ops Q rest (a.put o.dst (.agg cells)) w) : wpList P ops Q (o :: rest) a w :=
  wpList_build hg t parts ho (by rw [hf]; rfl) (by rw [hf]; exact h)
set_option maxRecDepth 100000 in
set_option maxHeartbeats 4000000 in
theorem made_any (w : World) : Calls Tryz.prog 84 #[] w fun e w' => ∃ g, e = .returned (.pointer (some ⟨g, 0, none⟩)) ∧ TableAt w' g ∧ Below w.heap.size w w' := by
  go_enter Tryz.func84, Tryz.ntmps84
  go_wp2_with (refine wpList_build2 rfl 132 _ rfl tableCells (by kernel_rfl) ?_)
  go_ret
  exact ⟨_, rfl, fun v s hv hs => by rw [World.cell?_alloc_new]; exact tableCells_at v s hv hs, (Below.refl _ _).alloc (Nat.le_refl _) _⟩
end Go.Proofs.YteigigepmoicaaaGreatDoor
